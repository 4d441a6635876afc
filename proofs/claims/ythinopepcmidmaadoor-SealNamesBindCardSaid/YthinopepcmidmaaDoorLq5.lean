/-
  Law 48: SealNamesBind.
-/
import Derived.Test.YthinopepcmidmaaDoorLt48
set_option linter.unusedSimpArgs false
set_option linter.unusedVariables false
set_option maxRecDepth 100000
set_option maxHeartbeats 1600000
namespace Go.Proofs.YthinopepcmidmaaDoor
open Go.RowKit

theorem load_sl_a (b k : Nat) (X : World) (v : Value) (h : X.cell? ⟨b, k, none⟩ = some v) : (loadVar 30 ⟨b, k, none⟩).run Tryd.prog X = .ok v X := by
  go_simp
theorem load_sl_b (b k : Nat) (X : World) (v : Value) (h : X.cell? ⟨b, k, none⟩ = some v) : (loadVar 53 ⟨b, k, none⟩).run Tryd.prog X = .ok v X := by
  go_simp
/-- Whether two different statements up to a place have one name; whether all up to a place are the same. -/
def mtB (l l2 : List Sl) : Nat → Bool
  | 0 => false
  | k + 1 => mtB l l2 k || (decide (sAt l k ≠ sAt l2 k) && decide (nm48 (sAt l k) = nm48 (sAt l2 k)))
def smB (l l2 : List Sl) : Nat → Bool
  | 0 => true
  | k + 1 => smB l l2 k && decide (sAt l k = sAt l2 k)
theorem smB_all {l l2 : List Sl} : ∀ {k : Nat}, (∀ i, i < k → sAt l i = sAt l2 i) → smB l l2 k = true
  | 0, _ => rfl
  | k + 1, h => by
    unfold smB
    rw [smB_all (fun i hi => h i (by omega)), decide_eq_true (h k (by omega))]
    rfl
theorem mtB_some {l l2 : List Sl} {i : Nat} (h : sAt l i ≠ sAt l2 i ∧ nm48 (sAt l i) = nm48 (sAt l2 i)) : ∀ {k : Nat}, i < k → mtB l l2 k = true
  | 0, hk => by omega
  | k + 1, hk => by
    unfold mtB
    rcases Nat.lt_or_ge i k with h9 | h9
    · rw [mtB_some h h9]
      rfl
    · obtain rfl : i = k := by omega
      rw [decide_eq_true h.1, decide_eq_true h.2]
      simp
theorem sm_mt {r : List (List UInt8)} {l l2 : List Sl} (h1 : Chn mk48 nm48 r l) (h2 : Chn mk48 nm48 r l2) {k : Nat} (hk : k < l.length) (hk2 : k < l2.length) (hn : nm48 (sAt l k) = nm48 (sAt l2 k)) : (smB l l2 (k + 1) || mtB l l2 (k + 1)) = true := by
  rcases bind mk48 nm48 h1 h2 hk hk2 hn with h | ⟨i, hi, h⟩
  · rw [smB_all (fun i hi => h i (by omega))]
    rfl
  · rw [mtB_some h (by omega), Bool.or_true]
theorem bindW (A : Option Addr) (c : Nat) (r : List (List UInt8)) (A1 : Option Addr) (m c1 : Nat) (l : List Sl) (A2 : Option Addr) (m2 c2 : Nat) (l2 : List Sl) (a : Int) (w : World) (hr : Sts r (.slice A r.length c) w) (hrl : Rd w 37 (.slice A1 m c1) m (fl slc l)) (hlm : l.length = m) (hok : ∀ s ∈ l, SlOk s) (hrl2 : Rd w 37 (.slice A2 m2 c2) m2 (fl slc l2)) (hlm2 : l2.length = m2) (hok2 : ∀ s ∈ l2, SlOk s) (ha : 0 ≤ a ∧ a ≤ 255) (hK : KK w) : Calls Tryd.prog 7 #[.agg #[.slice A r.length c], .agg #[.slice A1 m c1, .slice A2 m2 c2], .int .u8 a] w fun e w' => e = .returned (.bool true) ∧ Since w w' := by
  have HKK : Hid (∀ X, Since w X → KK X) := fun X h => hK.below h hK.1
  have hm1 := rd_max hrl
  have hm2 := rd_max hrl2
  have HR1 : Hid (∀ X, Since w X → Sts r (.slice A r.length c) X) := fun X h => Sts.lasts _ _ _ _ hr h
  have HL1 : Hid (∀ X, Since w X → Slv l (.slice A1 m c1) X) := fun X hX => slv_of hlm (hrl.below hX)
  have HL2 : Hid (∀ X, Since w X → Slv l2 (.slice A2 m2 c2) X) := fun X hX => slv_of hlm2 (hrl2.below hX)
  have HLM := Lib.hid hlm
  have HLM2 := Lib.hid hlm2
  have HOK := Lib.hid hok
  have HOK2 := Lib.hid hok2
  clear hr hlm hlm2 hok hok2 hK
  obtain ⟨ha0, ha1⟩ := ha
  by_cases q0 : m < 1
  · clear hrl hrl2
    go_enter Tryd.func7, Tryd.ntmps7
    go_upto_region 1 with (fail)
    obtain ⟨W0, hW0, hB0, hB1, hb⟩ := start2 w 24 41 [.slice A r.length c] [.slice A1 m c1, .slice A2 m2 c2]
    rw [← hW0]
    clear hW0
    refine jd ?_
    refine jn (.pointer (some ⟨(w.heap.size + 1), 0, none⟩)) ?_
    refine jf (.slice A1 m c1) hB1 0 load_sl_a ?_
    refine jn (.pointer (some ⟨(w.heap.size + 1), 1, none⟩)) ?_
    refine jf (.slice A2 m2 c2) hB1 1 load_sl_a ?_
    refine jm (.slice A1 m c1) ?_
    refine jm (.slice A2 m2 c2) ?_
    refine jz fun X1 hX1 => ?_
    have hB0 := hB0.bel hX1
    have hB1 := hB1.bel hX1
    have hb := bel_next hb hX1
    clear hX1
    go_upto_region 2 with (fail)
    refine jp ?_
    refine jm (.slice A1 m c1) ?_
    refine jv (.int .i64 (m : Int)) (exec_lenv Tryd.underlying30 _ (by rfl) A1 m c1 (by rfl) _ rfl) ?_
    refine jv (.bool true) (exec_eqi _ _ _ _ (by rfl) .i64 (m : Int) 0 (by rfl) (by rfl) true (decide_eq_true (by omega))) ?_
    refine jm (.bool true) ?_
    refine js ?_
    refine js ?_
    refine js ?_
    refine jm (.bool true) ?_
    refine jm (.bool true) ?_
    refine js ?_
    refine js ?_
    refine js ?_
    refine jm (.bool true) ?_
    refine jm (.bool true) ?_
    refine js ?_
    refine js ?_
    refine js ?_
    refine jm (.bool true) ?_
    refine jm (.bool true) ?_
    refine js ?_
    refine js ?_
    refine js ?_
    refine js ?_
    refine jm (.bool true) ?_
    refine jm (.bool true) ?_
    refine js ?_
    refine js ?_
    refine js ?_
    refine js ?_
    refine jm (.bool true) ?_
    refine jz fun X2 hX2 => ?_
    have hB0 := hB0.bel hX2
    have hB1 := hB1.bel hX2
    have hb := bel_next hb hX2
    clear hX2
    go_upto_region 3 with (fail)
    refine jp ?_
    refine jc (.bool true) (fun X hX hF => sanC X (HKK.out X (bel_next hb hX))) ?_
    refine jm (.bool true) ?_
    refine jz fun X3 hX3 => ?_
    have hB0 := hB0.bel hX3
    have hB1 := hB1.bel hX3
    have hb := bel_next hb hX3
    clear hX3
    go_wp2
    go_ret
    exact ⟨rfl, hb⟩
  · by_cases q1 : m2 < 1
    · clear hrl hrl2
      go_enter Tryd.func7, Tryd.ntmps7
      go_upto_region 1 with (fail)
      obtain ⟨W0, hW0, hB0, hB1, hb⟩ := start2 w 24 41 [.slice A r.length c] [.slice A1 m c1, .slice A2 m2 c2]
      rw [← hW0]
      clear hW0
      refine jd ?_
      refine jn (.pointer (some ⟨(w.heap.size + 1), 0, none⟩)) ?_
      refine jf (.slice A1 m c1) hB1 0 load_sl_a ?_
      refine jn (.pointer (some ⟨(w.heap.size + 1), 1, none⟩)) ?_
      refine jf (.slice A2 m2 c2) hB1 1 load_sl_a ?_
      refine jm (.slice A1 m c1) ?_
      refine jm (.slice A2 m2 c2) ?_
      refine jz fun X1 hX1 => ?_
      have hB0 := hB0.bel hX1
      have hB1 := hB1.bel hX1
      have hb := bel_next hb hX1
      clear hX1
      go_upto_region 2 with (fail)
      refine jp ?_
      refine jm (.slice A1 m c1) ?_
      refine jv (.int .i64 (m : Int)) (exec_lenv Tryd.underlying30 _ (by rfl) A1 m c1 (by rfl) _ rfl) ?_
      refine jv (.bool false) (exec_eqi _ _ _ _ (by rfl) .i64 (m : Int) 0 (by rfl) (by rfl) false (decide_eq_false (by omega))) ?_
      refine jm (.bool false) ?_
      refine jm (.slice A2 m2 c2) ?_
      refine jv (.int .i64 (m2 : Int)) (exec_lenv Tryd.underlying30 _ (by rfl) A2 m2 c2 (by rfl) _ rfl) ?_
      refine jv (.bool true) (exec_eqi _ _ _ _ (by rfl) .i64 (m2 : Int) 0 (by rfl) (by rfl) true (decide_eq_true (by omega))) ?_
      refine jm (.bool true) ?_
      refine jm (.bool true) ?_
      refine js ?_
      refine js ?_
      refine js ?_
      refine jm (.bool true) ?_
      refine jm (.bool true) ?_
      refine js ?_
      refine js ?_
      refine js ?_
      refine jm (.bool true) ?_
      refine jm (.bool true) ?_
      refine js ?_
      refine js ?_
      refine js ?_
      refine js ?_
      refine jm (.bool true) ?_
      refine jm (.bool true) ?_
      refine js ?_
      refine js ?_
      refine js ?_
      refine js ?_
      refine jm (.bool true) ?_
      refine jz fun X2 hX2 => ?_
      have hB0 := hB0.bel hX2
      have hB1 := hB1.bel hX2
      have hb := bel_next hb hX2
      clear hX2
      go_upto_region 3 with (fail)
      refine jp ?_
      refine jc (.bool true) (fun X hX hF => sanC X (HKK.out X (bel_next hb hX))) ?_
      refine jm (.bool true) ?_
      refine jz fun X3 hX3 => ?_
      have hB0 := hB0.bel hX3
      have hB1 := hB1.bel hX3
      have hb := bel_next hb hX3
      clear hX3
      go_wp2
      go_ret
      exact ⟨rfl, hb⟩
    · by_cases q2 : 20 < m
      · clear hrl hrl2
        go_enter Tryd.func7, Tryd.ntmps7
        go_upto_region 1 with (fail)
        obtain ⟨W0, hW0, hB0, hB1, hb⟩ := start2 w 24 41 [.slice A r.length c] [.slice A1 m c1, .slice A2 m2 c2]
        rw [← hW0]
        clear hW0
        refine jd ?_
        refine jn (.pointer (some ⟨(w.heap.size + 1), 0, none⟩)) ?_
        refine jf (.slice A1 m c1) hB1 0 load_sl_a ?_
        refine jn (.pointer (some ⟨(w.heap.size + 1), 1, none⟩)) ?_
        refine jf (.slice A2 m2 c2) hB1 1 load_sl_a ?_
        refine jm (.slice A1 m c1) ?_
        refine jm (.slice A2 m2 c2) ?_
        refine jz fun X1 hX1 => ?_
        have hB0 := hB0.bel hX1
        have hB1 := hB1.bel hX1
        have hb := bel_next hb hX1
        clear hX1
        go_upto_region 2 with (fail)
        refine jp ?_
        refine jm (.slice A1 m c1) ?_
        refine jv (.int .i64 (m : Int)) (exec_lenv Tryd.underlying30 _ (by rfl) A1 m c1 (by rfl) _ rfl) ?_
        refine jv (.bool false) (exec_eqi _ _ _ _ (by rfl) .i64 (m : Int) 0 (by rfl) (by rfl) false (decide_eq_false (by omega))) ?_
        refine jm (.bool false) ?_
        refine jm (.slice A2 m2 c2) ?_
        refine jv (.int .i64 (m2 : Int)) (exec_lenv Tryd.underlying30 _ (by rfl) A2 m2 c2 (by rfl) _ rfl) ?_
        refine jv (.bool false) (exec_eqi _ _ _ _ (by rfl) .i64 (m2 : Int) 0 (by rfl) (by rfl) false (decide_eq_false (by omega))) ?_
        refine jm (.bool false) ?_
        refine jm (.bool false) ?_
        refine jm (.slice A1 m c1) ?_
        refine jv (.int .i64 (m : Int)) (exec_lenv Tryd.underlying30 _ (by rfl) A1 m c1 (by rfl) _ rfl) ?_
        refine jv (.bool true) (exec_gtr _ _ _ _ (by rfl) .i64 (m : Int) 20 (by rfl) (by rfl) true (decide_eq_true (by omega))) ?_
        refine jm (.bool true) ?_
        refine jm (.bool true) ?_
        refine js ?_
        refine js ?_
        refine js ?_
        refine jm (.bool true) ?_
        refine jm (.bool true) ?_
        refine js ?_
        refine js ?_
        refine js ?_
        refine js ?_
        refine jm (.bool true) ?_
        refine jm (.bool true) ?_
        refine js ?_
        refine js ?_
        refine js ?_
        refine js ?_
        refine jm (.bool true) ?_
        refine jz fun X2 hX2 => ?_
        have hB0 := hB0.bel hX2
        have hB1 := hB1.bel hX2
        have hb := bel_next hb hX2
        clear hX2
        go_upto_region 3 with (fail)
        refine jp ?_
        refine jc (.bool true) (fun X hX hF => sanC X (HKK.out X (bel_next hb hX))) ?_
        refine jm (.bool true) ?_
        refine jz fun X3 hX3 => ?_
        have hB0 := hB0.bel hX3
        have hB1 := hB1.bel hX3
        have hb := bel_next hb hX3
        clear hX3
        go_wp2
        go_ret
        exact ⟨rfl, hb⟩
      · by_cases q3 : 20 < m2
        · clear hrl hrl2
          go_enter Tryd.func7, Tryd.ntmps7
          go_upto_region 1 with (fail)
          obtain ⟨W0, hW0, hB0, hB1, hb⟩ := start2 w 24 41 [.slice A r.length c] [.slice A1 m c1, .slice A2 m2 c2]
          rw [← hW0]
          clear hW0
          refine jd ?_
          refine jn (.pointer (some ⟨(w.heap.size + 1), 0, none⟩)) ?_
          refine jf (.slice A1 m c1) hB1 0 load_sl_a ?_
          refine jn (.pointer (some ⟨(w.heap.size + 1), 1, none⟩)) ?_
          refine jf (.slice A2 m2 c2) hB1 1 load_sl_a ?_
          refine jm (.slice A1 m c1) ?_
          refine jm (.slice A2 m2 c2) ?_
          refine jz fun X1 hX1 => ?_
          have hB0 := hB0.bel hX1
          have hB1 := hB1.bel hX1
          have hb := bel_next hb hX1
          clear hX1
          go_upto_region 2 with (fail)
          refine jp ?_
          refine jm (.slice A1 m c1) ?_
          refine jv (.int .i64 (m : Int)) (exec_lenv Tryd.underlying30 _ (by rfl) A1 m c1 (by rfl) _ rfl) ?_
          refine jv (.bool false) (exec_eqi _ _ _ _ (by rfl) .i64 (m : Int) 0 (by rfl) (by rfl) false (decide_eq_false (by omega))) ?_
          refine jm (.bool false) ?_
          refine jm (.slice A2 m2 c2) ?_
          refine jv (.int .i64 (m2 : Int)) (exec_lenv Tryd.underlying30 _ (by rfl) A2 m2 c2 (by rfl) _ rfl) ?_
          refine jv (.bool false) (exec_eqi _ _ _ _ (by rfl) .i64 (m2 : Int) 0 (by rfl) (by rfl) false (decide_eq_false (by omega))) ?_
          refine jm (.bool false) ?_
          refine jm (.bool false) ?_
          refine jm (.slice A1 m c1) ?_
          refine jv (.int .i64 (m : Int)) (exec_lenv Tryd.underlying30 _ (by rfl) A1 m c1 (by rfl) _ rfl) ?_
          refine jv (.bool false) (exec_gtr _ _ _ _ (by rfl) .i64 (m : Int) 20 (by rfl) (by rfl) false (decide_eq_false (by omega))) ?_
          refine jm (.bool false) ?_
          refine jm (.bool false) ?_
          refine jm (.slice A2 m2 c2) ?_
          refine jv (.int .i64 (m2 : Int)) (exec_lenv Tryd.underlying30 _ (by rfl) A2 m2 c2 (by rfl) _ rfl) ?_
          refine jv (.bool true) (exec_gtr _ _ _ _ (by rfl) .i64 (m2 : Int) 20 (by rfl) (by rfl) true (decide_eq_true (by omega))) ?_
          refine jm (.bool true) ?_
          refine jm (.bool true) ?_
          refine js ?_
          refine js ?_
          refine js ?_
          refine js ?_
          refine jm (.bool true) ?_
          refine jm (.bool true) ?_
          refine js ?_
          refine js ?_
          refine js ?_
          refine js ?_
          refine jm (.bool true) ?_
          refine jz fun X2 hX2 => ?_
          have hB0 := hB0.bel hX2
          have hB1 := hB1.bel hX2
          have hb := bel_next hb hX2
          clear hX2
          go_upto_region 3 with (fail)
          refine jp ?_
          refine jc (.bool true) (fun X hX hF => sanC X (HKK.out X (bel_next hb hX))) ?_
          refine jm (.bool true) ?_
          refine jz fun X3 hX3 => ?_
          have hB0 := hB0.bel hX3
          have hB1 := hB1.bel hX3
          have hb := bel_next hb hX3
          clear hX3
          go_wp2
          go_ret
          exact ⟨rfl, hb⟩
        · by_cases g1 : lgE mk48 nm48 r l = 0
          · have G1 := Lib.hid g1
            clear g1
            by_cases g2 : lgE mk48 nm48 r l2 = 0
            · have G2 := Lib.hid g2
              clear g2
              obtain ⟨b, off, rfl, hbw, hall⟩ := hrl.sls HOK.out HLM.out (by omega)
              obtain ⟨b2, off2, rfl, hbw2, hall2⟩ := hrl2.sls HOK2.out HLM2.out (by omega)
              have HEL : Hid (∀ X, Since w X → ∀ j, j < m → Cl X b (off + j * 37) (slc (sAt l j))) := fun X hX j hj => (hall j hj).below hX hbw
              have HEL2 : Hid (∀ X, Since w X → ∀ j, j < m2 → Cl X b2 (off2 + j * 37) (slc (sAt l2 j))) := fun X hX j hj => (hall2 j hj).below hX hbw2
              clear hall hall2 hrl hrl2
              have hch := ((lg_zero mk48 nm48).1 G1.out).2.2
              have hch2 := ((lg_zero mk48 nm48).1 G2.out).2.2
              have HCH := Lib.hid hch
              have HCH2 := Lib.hid hch2
              clear hch hch2
              obtain ⟨M, hMm, hMm2, hM0, hmin⟩ : ∃ M : Nat, M ≤ m ∧ M ≤ m2 ∧ 0 < M ∧ min (m : Int) (m2 : Int) = (M : Int) := by
                rcases Nat.le_total m m2 with h9 | h9
                · exact ⟨m, Nat.le_refl _, h9, by omega, by omega⟩
                · exact ⟨m2, h9, Nat.le_refl _, by omega, by omega⟩
              have HMIN := Lib.hid hmin
              clear hmin
              obtain ⟨k, hk9, hkM⟩ : ∃ k : Nat, a % (M : Int) = (k : Int) ∧ k < M := by
                have e1 := Int.emod_nonneg a (show (M : Int) ≠ 0 by omega)
                have e2 := Int.emod_lt_of_pos a (show (0 : Int) < (M : Int) by omega)
                exact ⟨(a % (M : Int)).toNat, by omega, by omega⟩
              have HKM := Lib.hid hk9
              clear hk9
              have hkm : k < m := by omega
              have hkm2 : k < m2 := by omega
              go_enter Tryd.func7, Tryd.ntmps7
              go_upto_region 1 with (fail)
              obtain ⟨W0, hW0, hB0, hB1, hb⟩ := start2 w 24 41 [.slice A r.length c] [.slice (some ⟨b, off, none⟩) m c1, .slice (some ⟨b2, off2, none⟩) m2 c2]
              rw [← hW0]
              clear hW0
              refine jd ?_
              refine jn (.pointer (some ⟨(w.heap.size + 1), 0, none⟩)) ?_
              refine jf (.slice (some ⟨b, off, none⟩) m c1) hB1 0 load_sl_a ?_
              refine jn (.pointer (some ⟨(w.heap.size + 1), 1, none⟩)) ?_
              refine jf (.slice (some ⟨b2, off2, none⟩) m2 c2) hB1 1 load_sl_a ?_
              refine jm (.slice (some ⟨b, off, none⟩) m c1) ?_
              refine jm (.slice (some ⟨b2, off2, none⟩) m2 c2) ?_
              refine jz fun X1 hX1 => ?_
              have hB0 := hB0.bel hX1
              have hB1 := hB1.bel hX1
              have hb := bel_next hb hX1
              clear hX1
              go_upto_region 2 with (fail)
              refine jp ?_
              refine jm (.slice (some ⟨b, off, none⟩) m c1) ?_
              refine jv (.int .i64 (m : Int)) (exec_lenv Tryd.underlying30 _ (by rfl) (some ⟨b, off, none⟩) m c1 (by rfl) _ rfl) ?_
              refine jv (.bool false) (exec_eqi _ _ _ _ (by rfl) .i64 (m : Int) 0 (by rfl) (by rfl) false (decide_eq_false (by omega))) ?_
              refine jm (.bool false) ?_
              refine jm (.slice (some ⟨b2, off2, none⟩) m2 c2) ?_
              refine jv (.int .i64 (m2 : Int)) (exec_lenv Tryd.underlying30 _ (by rfl) (some ⟨b2, off2, none⟩) m2 c2 (by rfl) _ rfl) ?_
              refine jv (.bool false) (exec_eqi _ _ _ _ (by rfl) .i64 (m2 : Int) 0 (by rfl) (by rfl) false (decide_eq_false (by omega))) ?_
              refine jm (.bool false) ?_
              refine jm (.bool false) ?_
              refine jm (.slice (some ⟨b, off, none⟩) m c1) ?_
              refine jv (.int .i64 (m : Int)) (exec_lenv Tryd.underlying30 _ (by rfl) (some ⟨b, off, none⟩) m c1 (by rfl) _ rfl) ?_
              refine jv (.bool false) (exec_gtr _ _ _ _ (by rfl) .i64 (m : Int) 20 (by rfl) (by rfl) false (decide_eq_false (by omega))) ?_
              refine jm (.bool false) ?_
              refine jm (.bool false) ?_
              refine jm (.slice (some ⟨b2, off2, none⟩) m2 c2) ?_
              refine jv (.int .i64 (m2 : Int)) (exec_lenv Tryd.underlying30 _ (by rfl) (some ⟨b2, off2, none⟩) m2 c2 (by rfl) _ rfl) ?_
              refine jv (.bool false) (exec_gtr _ _ _ _ (by rfl) .i64 (m2 : Int) 20 (by rfl) (by rfl) false (decide_eq_false (by omega))) ?_
              refine jm (.bool false) ?_
              refine jm (.bool false) ?_
              refine ja hB0 Tryd.underlying24 (by rfl) info_rg ?_
              refine jm (.slice (some ⟨b, off, none⟩) m c1) ?_
              refine jc (.int .i64 0) (fun X hX hF => mo (slgV r (.slice A r.length c) l (.slice (some ⟨b, off, none⟩) m c1) X (HR1.out X (bel_next hb hX)) (HL1.out X (bel_next hb hX)) HOK.out (HKK.out X (bel_next hb hX))) (by rw [G1.out])) ?_
              refine jv (.bool false) (exec_nei _ _ _ _ (by rfl) .i64 0 0 (by rfl) (by rfl) false (by rfl)) ?_
              refine jm (.bool false) ?_
              refine jm (.bool false) ?_
              refine ja hB0 Tryd.underlying24 (by rfl) info_rg ?_
              refine jm (.slice (some ⟨b2, off2, none⟩) m2 c2) ?_
              refine jc (.int .i64 0) (fun X hX hF => mo (slgV r (.slice A r.length c) l2 (.slice (some ⟨b2, off2, none⟩) m2 c2) X (HR1.out X (bel_next hb hX)) (HL2.out X (bel_next hb hX)) HOK2.out (HKK.out X (bel_next hb hX))) (by rw [G2.out])) ?_
              refine jv (.bool false) (exec_nei _ _ _ _ (by rfl) .i64 0 0 (by rfl) (by rfl) false (by rfl)) ?_
              refine jm (.bool false) ?_
              refine jz fun X2 hX2 => ?_
              have hB0 := hB0.bel hX2
              have hB1 := hB1.bel hX2
              have hb := bel_next hb hX2
              clear hX2
              go_upto_region 4 with (fail)
              refine jp ?_
              refine jm (.int .u8 a) ?_
              refine jv (.int .i64 a) (exec_cnv _ _ .u8 .i64 Tryd.underlying5 Tryd.underlying3 _ (by rfl) a a (by rfl) (by rw [IntWalk.i64_in _ (by omega)])) ?_
              refine jm (.slice (some ⟨b, off, none⟩) m c1) ?_
              refine jv (.int .i64 (m : Int)) (exec_lenv Tryd.underlying30 _ (by rfl) (some ⟨b, off, none⟩) m c1 (by rfl) _ rfl) ?_
              refine jm (.slice (some ⟨b2, off2, none⟩) m2 c2) ?_
              refine jv (.int .i64 (m2 : Int)) (exec_lenv Tryd.underlying30 _ (by rfl) (some ⟨b2, off2, none⟩) m2 c2 (by rfl) _ rfl) ?_
              refine jv (.int .i64 (M : Int)) (exec_min _ _ (by rfl) .i64 (m : Int) (m2 : Int) (M : Int) (by rfl) (by rfl) HMIN.out) ?_
              refine jv (.int .i64 (k : Int)) (exec_rem _ _ _ _ (by rfl) .i64 a (M : Int) (k : Int) (by rfl) (by rfl) (by omega) (by omega) HKM.out) ?_
              refine jm (.int .i64 (k : Int)) ?_
              refine jz fun X3 hX3 => ?_
              have hB0 := hB0.bel hX3
              have hB1 := hB1.bel hX3
              have hb := bel_next hb hX3
              clear hX3
              have hcx := HEL.out _ hb k hkm
              have hcy := HEL2.out _ hb k hkm2
              have hbb := Nat.lt_of_lt_of_le hbw hb.size
              have hbb2 := Nat.lt_of_lt_of_le hbw2 hb.size
              have ox := ok_at HOK.out (k := k) (by rw [HLM.out]; exact hkm)
              have oy := ok_at HOK2.out (k := k) (by rw [HLM2.out]; exact hkm2)
              have hbx := lg_bd G1.out (k := k) (by rw [HLM.out]; exact hkm)
              have hby := lg_bd G2.out (k := k) (by rw [HLM2.out]; exact hkm2)
              obtain ⟨x, hx9⟩ : ∃ x, x = sAt l k := ⟨_, rfl⟩
              obtain ⟨y, hy9⟩ : ∃ y, y = sAt l2 k := ⟨_, rfl⟩
              rw [← hx9] at hcx ox hbx
              rw [← hy9] at hcy oy hby
              have HX : Hid (sAt l k = x) := hx9.symm
              have HY : Hid (sAt l2 k = y) := hy9.symm
              clear hx9 hy9
              by_cases hnm : nm48 x = nm48 y
              · have HNM := Lib.hid hnm
                clear hnm
                go_upto_region 5 with (fail)
                refine jd ?_
                refine jm (.slice (some ⟨b, off, none⟩) m c1) ?_
                refine jm (.int .i64 (k : Int)) ?_
                refine jv (.pointer (some ⟨b, off + k * 37, none⟩)) (exec_ixv Tryd.underlying30 info_sl _ _ (by rfl) b (off) m c1 k (by omega) (by rfl) (by rfl) rfl) ?_
                refine jg (.agg (slc x).toArray) (fun X hX hF => exec_ldc 28 _ (by rfl) b (off + k * 37) (by rfl) Tryd.underlying28 rfl (slc x) X (hcx.below hX hbb) (info_slc ox)) ?_
                refine jc (.agg ((nm48 x).map B8).toArray) (fun X hX hF => snmC x X ox (by omega) (HKK.out X (bel_next hb hX))) ?_
                refine jm (.slice (some ⟨b2, off2, none⟩) m2 c2) ?_
                refine jm (.int .i64 (k : Int)) ?_
                refine jv (.pointer (some ⟨b2, off2 + k * 37, none⟩)) (exec_ixv Tryd.underlying30 info_sl _ _ (by rfl) b2 (off2) m2 c2 k (by omega) (by rfl) (by rfl) rfl) ?_
                refine jg (.agg (slc y).toArray) (fun X hX hF => exec_ldc 28 _ (by rfl) b2 (off2 + k * 37) (by rfl) Tryd.underlying28 rfl (slc y) X (hcy.below hX hbb2) (info_slc oy)) ?_
                refine jc (.agg ((nm48 y).map B8).toArray) (fun X hX hF => snmC y X oy (by omega) (HKK.out X (bel_next hb hX))) ?_
                refine jv (.bool false) (exec_nedg _ _ _ (by rfl) (nm48 x) (nm48 y) (nm_len _) (nm_len _) (by rfl) (by rfl) _ (nes_f HNM.out)) ?_
                refine jz fun X4 hX4 => ?_
                have hB0 := hB0.bel hX4
                have hB1 := hB1.bel hX4
                have hcx := hcx.below hX4 hbb
                have hcy := hcy.below hX4 hbb2
                replace hbb := Nat.lt_of_lt_of_le hbb (hX4).size
                replace hbb2 := Nat.lt_of_lt_of_le hbb2 (hX4).size
                have hb := bel_next hb hX4
                clear hX4
                clear hcx hcy hbb hbb2
                have HSM : Hid ((smB l l2 (k + 1) || mtB l l2 (k + 1)) = true) := sm_mt HCH.out HCH2.out (by rw [HLM.out]; exact hkm) (by rw [HLM2.out]; exact hkm2) (by rw [HX.out, HY.out]; exact HNM.out)
                clear HX HY HNM
                go_upto_region 7 with (fail)
                refine jp ?_
                refine jm (.bool false) ?_
                refine jm (.bool true) ?_
                refine jz fun X5 hX5 => ?_
                have hB0 := hB0.bel hX5
                have hB1 := hB1.bel hX5
                have hb := bel_next hb hX5
                clear hX5
                go_upto_region 8 with (fail)
                refine jp ?_
                refine jm (.int .i64 (k : Int)) ?_
                refine jv (.int .i64 ((k : Int) + 1)) (exec_add _ _ _ _ (by rfl) (k : Int) 1 ((k : Int) + 1) (by rfl) (by rfl) (by omega) (by omega) (by omega)) ?_
                refine jm (.int .i64 0) ?_
                refine jz fun X6 hX6 => ?_
                have hB0 := hB0.bel hX6
                have hB1 := hB1.bel hX6
                have hb := bel_next hb hX6
                clear hX6
                go_wp2
                go_loopw [10, 11, 81] (fun mv sv iv wr => ∃ i : Nat, i ≤ k + 1 ∧ mv = .bool (mtB l l2 i) ∧ sv = .bool (smB l l2 i) ∧ iv = .int .i64 (i : Int) ∧ Blk wr w.heap.size 24 [.slice A r.length c] ∧ Below w.heap.size w wr) (fun mv sv iv _ => k + 1 - (intOf iv).toNat)
                case atStart => exact ⟨0, by omega, rfl, rfl, rfl, hB0, hb⟩
                case round =>
                  clear hb hB0 hB1
                  obtain ⟨i, hi, rfl, rfl, rfl, hB0, hb⟩ := hrel
                  rcases Nat.lt_or_ge i (k + 1) with hlt | hlt
                  · have him : i < m := by omega
                    have him2 : i < m2 := by omega
                    have hcx := HEL.out _ hb i him
                    have hcy := HEL2.out _ hb i him2
                    have hbb := Nat.lt_of_lt_of_le hbw hb.size
                    have hbb2 := Nat.lt_of_lt_of_le hbw2 hb.size
                    have ox := ok_at HOK.out (k := i) (by rw [HLM.out]; exact him)
                    have oy := ok_at HOK2.out (k := i) (by rw [HLM2.out]; exact him2)
                    have hbx := lg_bd G1.out (k := i) (by rw [HLM.out]; exact him)
                    have hby := lg_bd G2.out (k := i) (by rw [HLM2.out]; exact him2)
                    obtain ⟨x, hx9⟩ : ∃ x, x = sAt l i := ⟨_, rfl⟩
                    obtain ⟨y, hy9⟩ : ∃ y, y = sAt l2 i := ⟨_, rfl⟩
                    rw [← hx9] at hcx ox hbx
                    rw [← hy9] at hcy oy hby
                    have HX : Hid (sAt l i = x) := hx9.symm
                    have HY : Hid (sAt l2 i = y) := hy9.symm
                    clear hx9 hy9
                    go_upto_region 9 with (fail)
                    refine jp ?_
                    refine jv (.bool true) (exec_lss _ _ _ _ (by rfl) .i64 (i : Int) ((k : Int) + 1) (by rfl) (by rfl) true (decide_eq_true (by omega))) ?_
                    refine jz fun X1 hX1 => ?_
                    have hB0 := hB0.bel hX1
                    have hcx := hcx.below hX1 hbb
                    have hcy := hcy.below hX1 hbb2
                    replace hbb := Nat.lt_of_lt_of_le hbb (hX1).size
                    replace hbb2 := Nat.lt_of_lt_of_le hbb2 (hX1).size
                    have hb := bel_next hb hX1
                    clear hX1
                    go_upto_region 10 with (fail)
                    refine jp ?_
                    refine jm (.int .i64 (i : Int)) ?_
                    refine jm (.int .i64 (i : Int)) ?_
                    refine jz fun X2 hX2 => ?_
                    have hB0 := hB0.bel hX2
                    have hcx := hcx.below hX2 hbb
                    have hcy := hcy.below hX2 hbb2
                    replace hbb := Nat.lt_of_lt_of_le hbb (hX2).size
                    replace hbb2 := Nat.lt_of_lt_of_le hbb2 (hX2).size
                    have hb := bel_next hb hX2
                    clear hX2
                    by_cases hxy : x = y
                    · have HXY := Lib.hid hxy
                      clear hxy
                      cases hmt : mtB l l2 i
                      · have HMT := Lib.hid hmt
                        clear hmt
                        cases hsm : smB l l2 i
                        · have HSMi := Lib.hid hsm
                          clear hsm
                          go_upto_region 11 with (fail)
                          refine jd ?_
                          refine jm (.bool false) ?_
                          refine jm (.bool false) ?_
                          refine jm (.slice (some ⟨b, off, none⟩) m c1) ?_
                          refine jm (.int .i64 (i : Int)) ?_
                          refine jv (.pointer (some ⟨b, off + i * 37, none⟩)) (exec_ixv Tryd.underlying30 info_sl _ _ (by rfl) b (off) m c1 i (by omega) (by rfl) (by rfl) rfl) ?_
                          refine jg (.agg (slc x).toArray) (fun X hX hF => exec_ldc 28 _ (by rfl) b (off + i * 37) (by rfl) Tryd.underlying28 rfl (slc x) X (hcx.below hX hbb) (info_slc ox)) ?_
                          refine jm (.slice (some ⟨b2, off2, none⟩) m2 c2) ?_
                          refine jm (.int .i64 (i : Int)) ?_
                          refine jv (.pointer (some ⟨b2, off2 + i * 37, none⟩)) (exec_ixv Tryd.underlying30 info_sl _ _ (by rfl) b2 (off2) m2 c2 i (by omega) (by rfl) (by rfl) rfl) ?_
                          refine jg (.agg (slc y).toArray) (fun X hX hF => exec_ldc 28 _ (by rfl) b2 (off2 + i * 37) (by rfl) Tryd.underlying28 rfl (slc y) X (hcy.below hX hbb2) (info_slc oy)) ?_
                          refine jv (.bool false) (exec_nesl _ _ _ (by rfl) x y ox oy (by rfl) (by rfl) _ (by rw [decide_eq_true HXY.out]; rfl)) ?_
                          refine jm (.bool false) ?_
                          refine js ?_
                          refine js ?_
                          refine js ?_
                          refine js ?_
                          refine js ?_
                          refine js ?_
                          refine js ?_
                          refine js ?_
                          refine js ?_
                          refine js ?_
                          refine js ?_
                          refine jm (.bool false) ?_
                          refine jm (.bool false) ?_
                          refine jm (.bool false) ?_
                          refine jz fun X3 hX3 => ?_
                          have hB0 := hB0.bel hX3
                          have hcx := hcx.below hX3 hbb
                          have hcy := hcy.below hX3 hbb2
                          replace hbb := Nat.lt_of_lt_of_le hbb (hX3).size
                          replace hbb2 := Nat.lt_of_lt_of_le hbb2 (hX3).size
                          have hb := bel_next hb hX3
                          clear hX3
                          go_upto_region 12 with (fail)
                          refine jd ?_
                          refine jm (.bool false) ?_
                          refine jm (.bool false) ?_
                          refine js ?_
                          refine js ?_
                          refine js ?_
                          refine js ?_
                          refine js ?_
                          refine js ?_
                          refine js ?_
                          refine js ?_
                          refine js ?_
                          refine jm (.bool false) ?_
                          refine jm (.bool false) ?_
                          refine jz fun X4 hX4 => ?_
                          have hB0 := hB0.bel hX4
                          have hcx := hcx.below hX4 hbb
                          have hcy := hcy.below hX4 hbb2
                          replace hbb := Nat.lt_of_lt_of_le hbb (hX4).size
                          replace hbb2 := Nat.lt_of_lt_of_le hbb2 (hX4).size
                          have hb := bel_next hb hX4
                          clear hX4
                          clear hcx hcy hbb hbb2
                          go_upto_region 13 with (fail)
                          refine jp ?_
                          refine jv (.int .i64 ((i + 1 : Nat) : Int)) (exec_add _ _ _ _ (by rfl) (i : Int) 1 ((i + 1 : Nat) : Int) (by rfl) (by rfl) (by omega) (by omega) (by omega)) ?_
                          refine jm (.int .i64 ((i + 1 : Nat) : Int)) ?_
                          refine jz fun X5 hX5 => ?_
                          have hB0 := hB0.bel hX5
                          have hb := bel_next hb hX5
                          clear hX5
                          have HM1 : Hid (mtB l l2 (i + 1) = false) := by
                            unfold mtB
                            rw [HMT.out, HX.out, HY.out, decide_eq_false (fun h9 => h9 HXY.out)]; rfl
                          have HS1 : Hid (smB l l2 (i + 1) = false) := by
                            unfold smB
                            rw [HSMi.out]; rfl
                          go_wp2
                          go_roundw
                          case rel => exact ⟨i + 1, by omega, by rw [HM1.out], by rw [HS1.out], rfl, hB0, hb⟩
                          case measure => simp [intOf]; omega
                        · have HSMi := Lib.hid hsm
                          clear hsm
                          go_upto_region 11 with (fail)
                          refine jd ?_
                          refine jm (.bool false) ?_
                          refine jm (.bool false) ?_
                          refine jm (.slice (some ⟨b, off, none⟩) m c1) ?_
                          refine jm (.int .i64 (i : Int)) ?_
                          refine jv (.pointer (some ⟨b, off + i * 37, none⟩)) (exec_ixv Tryd.underlying30 info_sl _ _ (by rfl) b (off) m c1 i (by omega) (by rfl) (by rfl) rfl) ?_
                          refine jg (.agg (slc x).toArray) (fun X hX hF => exec_ldc 28 _ (by rfl) b (off + i * 37) (by rfl) Tryd.underlying28 rfl (slc x) X (hcx.below hX hbb) (info_slc ox)) ?_
                          refine jm (.slice (some ⟨b2, off2, none⟩) m2 c2) ?_
                          refine jm (.int .i64 (i : Int)) ?_
                          refine jv (.pointer (some ⟨b2, off2 + i * 37, none⟩)) (exec_ixv Tryd.underlying30 info_sl _ _ (by rfl) b2 (off2) m2 c2 i (by omega) (by rfl) (by rfl) rfl) ?_
                          refine jg (.agg (slc y).toArray) (fun X hX hF => exec_ldc 28 _ (by rfl) b2 (off2 + i * 37) (by rfl) Tryd.underlying28 rfl (slc y) X (hcy.below hX hbb2) (info_slc oy)) ?_
                          refine jv (.bool false) (exec_nesl _ _ _ (by rfl) x y ox oy (by rfl) (by rfl) _ (by rw [decide_eq_true HXY.out]; rfl)) ?_
                          refine jm (.bool false) ?_
                          refine js ?_
                          refine js ?_
                          refine js ?_
                          refine js ?_
                          refine js ?_
                          refine js ?_
                          refine js ?_
                          refine js ?_
                          refine js ?_
                          refine js ?_
                          refine js ?_
                          refine jm (.bool false) ?_
                          refine jm (.bool false) ?_
                          refine jm (.bool false) ?_
                          refine jz fun X3 hX3 => ?_
                          have hB0 := hB0.bel hX3
                          have hcx := hcx.below hX3 hbb
                          have hcy := hcy.below hX3 hbb2
                          replace hbb := Nat.lt_of_lt_of_le hbb (hX3).size
                          replace hbb2 := Nat.lt_of_lt_of_le hbb2 (hX3).size
                          have hb := bel_next hb hX3
                          clear hX3
                          go_upto_region 12 with (fail)
                          refine jd ?_
                          refine jm (.bool true) ?_
                          refine jm (.bool true) ?_
                          refine jm (.slice (some ⟨b, off, none⟩) m c1) ?_
                          refine jm (.int .i64 (i : Int)) ?_
                          refine jv (.pointer (some ⟨b, off + i * 37, none⟩)) (exec_ixv Tryd.underlying30 info_sl _ _ (by rfl) b (off) m c1 i (by omega) (by rfl) (by rfl) rfl) ?_
                          refine jg (.agg (slc x).toArray) (fun X hX hF => exec_ldc 28 _ (by rfl) b (off + i * 37) (by rfl) Tryd.underlying28 rfl (slc x) X (hcx.below hX hbb) (info_slc ox)) ?_
                          refine jm (.slice (some ⟨b2, off2, none⟩) m2 c2) ?_
                          refine jm (.int .i64 (i : Int)) ?_
                          refine jv (.pointer (some ⟨b2, off2 + i * 37, none⟩)) (exec_ixv Tryd.underlying30 info_sl _ _ (by rfl) b2 (off2) m2 c2 i (by omega) (by rfl) (by rfl) rfl) ?_
                          refine jg (.agg (slc y).toArray) (fun X hX hF => exec_ldc 28 _ (by rfl) b2 (off2 + i * 37) (by rfl) Tryd.underlying28 rfl (slc y) X (hcy.below hX hbb2) (info_slc oy)) ?_
                          refine jv (.bool true) (exec_eqsl _ _ _ (by rfl) x y ox oy (by rfl) (by rfl) _ (decide_eq_true HXY.out)) ?_
                          refine jm (.bool true) ?_
                          refine jm (.bool true) ?_
                          refine jz fun X4 hX4 => ?_
                          have hB0 := hB0.bel hX4
                          have hcx := hcx.below hX4 hbb
                          have hcy := hcy.below hX4 hbb2
                          replace hbb := Nat.lt_of_lt_of_le hbb (hX4).size
                          replace hbb2 := Nat.lt_of_lt_of_le hbb2 (hX4).size
                          have hb := bel_next hb hX4
                          clear hX4
                          clear hcx hcy hbb hbb2
                          go_upto_region 13 with (fail)
                          refine jp ?_
                          refine jv (.int .i64 ((i + 1 : Nat) : Int)) (exec_add _ _ _ _ (by rfl) (i : Int) 1 ((i + 1 : Nat) : Int) (by rfl) (by rfl) (by omega) (by omega) (by omega)) ?_
                          refine jm (.int .i64 ((i + 1 : Nat) : Int)) ?_
                          refine jz fun X5 hX5 => ?_
                          have hB0 := hB0.bel hX5
                          have hb := bel_next hb hX5
                          clear hX5
                          have HM1 : Hid (mtB l l2 (i + 1) = false) := by
                            unfold mtB
                            rw [HMT.out, HX.out, HY.out, decide_eq_false (fun h9 => h9 HXY.out)]; rfl
                          have HS1 : Hid (smB l l2 (i + 1) = true) := by
                            unfold smB
                            rw [HSMi.out, HX.out, HY.out, decide_eq_true HXY.out]; rfl
                          go_wp2
                          go_roundw
                          case rel => exact ⟨i + 1, by omega, by rw [HM1.out], by rw [HS1.out], rfl, hB0, hb⟩
                          case measure => simp [intOf]; omega
                      · have HMT := Lib.hid hmt
                        clear hmt
                        cases hsm : smB l l2 i
                        · have HSMi := Lib.hid hsm
                          clear hsm
                          go_upto_region 11 with (fail)
                          refine jd ?_
                          refine jm (.bool true) ?_
                          refine jm (.bool true) ?_
                          refine js ?_
                          refine js ?_
                          refine js ?_
                          refine js ?_
                          refine js ?_
                          refine js ?_
                          refine js ?_
                          refine js ?_
                          refine js ?_
                          refine js ?_
                          refine js ?_
                          refine js ?_
                          refine js ?_
                          refine js ?_
                          refine js ?_
                          refine js ?_
                          refine js ?_
                          refine js ?_
                          refine js ?_
                          refine js ?_
                          refine js ?_
                          refine js ?_
                          refine jm (.bool true) ?_
                          refine jm (.bool true) ?_
                          refine jz fun X3 hX3 => ?_
                          have hB0 := hB0.bel hX3
                          have hcx := hcx.below hX3 hbb
                          have hcy := hcy.below hX3 hbb2
                          replace hbb := Nat.lt_of_lt_of_le hbb (hX3).size
                          replace hbb2 := Nat.lt_of_lt_of_le hbb2 (hX3).size
                          have hb := bel_next hb hX3
                          clear hX3
                          go_upto_region 12 with (fail)
                          refine jd ?_
                          refine jm (.bool false) ?_
                          refine jm (.bool false) ?_
                          refine js ?_
                          refine js ?_
                          refine js ?_
                          refine js ?_
                          refine js ?_
                          refine js ?_
                          refine js ?_
                          refine js ?_
                          refine js ?_
                          refine jm (.bool false) ?_
                          refine jm (.bool false) ?_
                          refine jz fun X4 hX4 => ?_
                          have hB0 := hB0.bel hX4
                          have hcx := hcx.below hX4 hbb
                          have hcy := hcy.below hX4 hbb2
                          replace hbb := Nat.lt_of_lt_of_le hbb (hX4).size
                          replace hbb2 := Nat.lt_of_lt_of_le hbb2 (hX4).size
                          have hb := bel_next hb hX4
                          clear hX4
                          clear hcx hcy hbb hbb2
                          go_upto_region 13 with (fail)
                          refine jp ?_
                          refine jv (.int .i64 ((i + 1 : Nat) : Int)) (exec_add _ _ _ _ (by rfl) (i : Int) 1 ((i + 1 : Nat) : Int) (by rfl) (by rfl) (by omega) (by omega) (by omega)) ?_
                          refine jm (.int .i64 ((i + 1 : Nat) : Int)) ?_
                          refine jz fun X5 hX5 => ?_
                          have hB0 := hB0.bel hX5
                          have hb := bel_next hb hX5
                          clear hX5
                          have HM1 : Hid (mtB l l2 (i + 1) = true) := by
                            unfold mtB
                            rw [HMT.out]; rfl
                          have HS1 : Hid (smB l l2 (i + 1) = false) := by
                            unfold smB
                            rw [HSMi.out]; rfl
                          go_wp2
                          go_roundw
                          case rel => exact ⟨i + 1, by omega, by rw [HM1.out], by rw [HS1.out], rfl, hB0, hb⟩
                          case measure => simp [intOf]; omega
                        · have HSMi := Lib.hid hsm
                          clear hsm
                          go_upto_region 11 with (fail)
                          refine jd ?_
                          refine jm (.bool true) ?_
                          refine jm (.bool true) ?_
                          refine js ?_
                          refine js ?_
                          refine js ?_
                          refine js ?_
                          refine js ?_
                          refine js ?_
                          refine js ?_
                          refine js ?_
                          refine js ?_
                          refine js ?_
                          refine js ?_
                          refine js ?_
                          refine js ?_
                          refine js ?_
                          refine js ?_
                          refine js ?_
                          refine js ?_
                          refine js ?_
                          refine js ?_
                          refine js ?_
                          refine js ?_
                          refine js ?_
                          refine jm (.bool true) ?_
                          refine jm (.bool true) ?_
                          refine jz fun X3 hX3 => ?_
                          have hB0 := hB0.bel hX3
                          have hcx := hcx.below hX3 hbb
                          have hcy := hcy.below hX3 hbb2
                          replace hbb := Nat.lt_of_lt_of_le hbb (hX3).size
                          replace hbb2 := Nat.lt_of_lt_of_le hbb2 (hX3).size
                          have hb := bel_next hb hX3
                          clear hX3
                          go_upto_region 12 with (fail)
                          refine jd ?_
                          refine jm (.bool true) ?_
                          refine jm (.bool true) ?_
                          refine jm (.slice (some ⟨b, off, none⟩) m c1) ?_
                          refine jm (.int .i64 (i : Int)) ?_
                          refine jv (.pointer (some ⟨b, off + i * 37, none⟩)) (exec_ixv Tryd.underlying30 info_sl _ _ (by rfl) b (off) m c1 i (by omega) (by rfl) (by rfl) rfl) ?_
                          refine jg (.agg (slc x).toArray) (fun X hX hF => exec_ldc 28 _ (by rfl) b (off + i * 37) (by rfl) Tryd.underlying28 rfl (slc x) X (hcx.below hX hbb) (info_slc ox)) ?_
                          refine jm (.slice (some ⟨b2, off2, none⟩) m2 c2) ?_
                          refine jm (.int .i64 (i : Int)) ?_
                          refine jv (.pointer (some ⟨b2, off2 + i * 37, none⟩)) (exec_ixv Tryd.underlying30 info_sl _ _ (by rfl) b2 (off2) m2 c2 i (by omega) (by rfl) (by rfl) rfl) ?_
                          refine jg (.agg (slc y).toArray) (fun X hX hF => exec_ldc 28 _ (by rfl) b2 (off2 + i * 37) (by rfl) Tryd.underlying28 rfl (slc y) X (hcy.below hX hbb2) (info_slc oy)) ?_
                          refine jv (.bool true) (exec_eqsl _ _ _ (by rfl) x y ox oy (by rfl) (by rfl) _ (decide_eq_true HXY.out)) ?_
                          refine jm (.bool true) ?_
                          refine jm (.bool true) ?_
                          refine jz fun X4 hX4 => ?_
                          have hB0 := hB0.bel hX4
                          have hcx := hcx.below hX4 hbb
                          have hcy := hcy.below hX4 hbb2
                          replace hbb := Nat.lt_of_lt_of_le hbb (hX4).size
                          replace hbb2 := Nat.lt_of_lt_of_le hbb2 (hX4).size
                          have hb := bel_next hb hX4
                          clear hX4
                          clear hcx hcy hbb hbb2
                          go_upto_region 13 with (fail)
                          refine jp ?_
                          refine jv (.int .i64 ((i + 1 : Nat) : Int)) (exec_add _ _ _ _ (by rfl) (i : Int) 1 ((i + 1 : Nat) : Int) (by rfl) (by rfl) (by omega) (by omega) (by omega)) ?_
                          refine jm (.int .i64 ((i + 1 : Nat) : Int)) ?_
                          refine jz fun X5 hX5 => ?_
                          have hB0 := hB0.bel hX5
                          have hb := bel_next hb hX5
                          clear hX5
                          have HM1 : Hid (mtB l l2 (i + 1) = true) := by
                            unfold mtB
                            rw [HMT.out]; rfl
                          have HS1 : Hid (smB l l2 (i + 1) = true) := by
                            unfold smB
                            rw [HSMi.out, HX.out, HY.out, decide_eq_true HXY.out]; rfl
                          go_wp2
                          go_roundw
                          case rel => exact ⟨i + 1, by omega, by rw [HM1.out], by rw [HS1.out], rfl, hB0, hb⟩
                          case measure => simp [intOf]; omega
                    · have HXY : Hid (¬ x = y) := hxy
                      clear hxy
                      cases hmt : mtB l l2 i
                      · have HMT := Lib.hid hmt
                        clear hmt
                        cases hsm : smB l l2 i
                        · have HSMi := Lib.hid hsm
                          clear hsm
                          by_cases hnm : nm48 x = nm48 y
                          · have HNM := Lib.hid hnm
                            clear hnm
                            go_upto_region 11 with (fail)
                            refine jd ?_
                            refine jm (.bool false) ?_
                            refine jm (.bool false) ?_
                            refine jm (.slice (some ⟨b, off, none⟩) m c1) ?_
                            refine jm (.int .i64 (i : Int)) ?_
                            refine jv (.pointer (some ⟨b, off + i * 37, none⟩)) (exec_ixv Tryd.underlying30 info_sl _ _ (by rfl) b (off) m c1 i (by omega) (by rfl) (by rfl) rfl) ?_
                            refine jg (.agg (slc x).toArray) (fun X hX hF => exec_ldc 28 _ (by rfl) b (off + i * 37) (by rfl) Tryd.underlying28 rfl (slc x) X (hcx.below hX hbb) (info_slc ox)) ?_
                            refine jm (.slice (some ⟨b2, off2, none⟩) m2 c2) ?_
                            refine jm (.int .i64 (i : Int)) ?_
                            refine jv (.pointer (some ⟨b2, off2 + i * 37, none⟩)) (exec_ixv Tryd.underlying30 info_sl _ _ (by rfl) b2 (off2) m2 c2 i (by omega) (by rfl) (by rfl) rfl) ?_
                            refine jg (.agg (slc y).toArray) (fun X hX hF => exec_ldc 28 _ (by rfl) b2 (off2 + i * 37) (by rfl) Tryd.underlying28 rfl (slc y) X (hcy.below hX hbb2) (info_slc oy)) ?_
                            refine jv (.bool true) (exec_nesl _ _ _ (by rfl) x y ox oy (by rfl) (by rfl) _ (by rw [decide_eq_false HXY.out]; rfl)) ?_
                            refine jm (.bool true) ?_
                            refine jm (.slice (some ⟨b, off, none⟩) m c1) ?_
                            refine jm (.int .i64 (i : Int)) ?_
                            refine jv (.pointer (some ⟨b, off + i * 37, none⟩)) (exec_ixv Tryd.underlying30 info_sl _ _ (by rfl) b (off) m c1 i (by omega) (by rfl) (by rfl) rfl) ?_
                            refine jg (.agg (slc x).toArray) (fun X hX hF => exec_ldc 28 _ (by rfl) b (off + i * 37) (by rfl) Tryd.underlying28 rfl (slc x) X (hcx.below hX hbb) (info_slc ox)) ?_
                            refine jc (.agg ((nm48 x).map B8).toArray) (fun X hX hF => snmC x X ox (by omega) (HKK.out X (bel_next hb hX))) ?_
                            refine jm (.slice (some ⟨b2, off2, none⟩) m2 c2) ?_
                            refine jm (.int .i64 (i : Int)) ?_
                            refine jv (.pointer (some ⟨b2, off2 + i * 37, none⟩)) (exec_ixv Tryd.underlying30 info_sl _ _ (by rfl) b2 (off2) m2 c2 i (by omega) (by rfl) (by rfl) rfl) ?_
                            refine jg (.agg (slc y).toArray) (fun X hX hF => exec_ldc 28 _ (by rfl) b2 (off2 + i * 37) (by rfl) Tryd.underlying28 rfl (slc y) X (hcy.below hX hbb2) (info_slc oy)) ?_
                            refine jc (.agg ((nm48 y).map B8).toArray) (fun X hX hF => snmC y X oy (by omega) (HKK.out X (bel_next hb hX))) ?_
                            refine jv (.bool true) (exec_eqdg _ _ _ (by rfl) (nm48 x) (nm48 y) (nm_len _) (nm_len _) (by rfl) (by rfl) _ (eqs_t HNM.out)) ?_
                            refine jm (.bool true) ?_
                            refine jm (.bool true) ?_
                            refine jm (.bool true) ?_
                            refine jz fun X3 hX3 => ?_
                            have hB0 := hB0.bel hX3
                            have hcx := hcx.below hX3 hbb
                            have hcy := hcy.below hX3 hbb2
                            replace hbb := Nat.lt_of_lt_of_le hbb (hX3).size
                            replace hbb2 := Nat.lt_of_lt_of_le hbb2 (hX3).size
                            have hb := bel_next hb hX3
                            clear hX3
                            go_upto_region 12 with (fail)
                            refine jd ?_
                            refine jm (.bool false) ?_
                            refine jm (.bool false) ?_
                            refine js ?_
                            refine js ?_
                            refine js ?_
                            refine js ?_
                            refine js ?_
                            refine js ?_
                            refine js ?_
                            refine js ?_
                            refine js ?_
                            refine jm (.bool false) ?_
                            refine jm (.bool false) ?_
                            refine jz fun X4 hX4 => ?_
                            have hB0 := hB0.bel hX4
                            have hcx := hcx.below hX4 hbb
                            have hcy := hcy.below hX4 hbb2
                            replace hbb := Nat.lt_of_lt_of_le hbb (hX4).size
                            replace hbb2 := Nat.lt_of_lt_of_le hbb2 (hX4).size
                            have hb := bel_next hb hX4
                            clear hX4
                            clear hcx hcy hbb hbb2
                            go_upto_region 13 with (fail)
                            refine jp ?_
                            refine jv (.int .i64 ((i + 1 : Nat) : Int)) (exec_add _ _ _ _ (by rfl) (i : Int) 1 ((i + 1 : Nat) : Int) (by rfl) (by rfl) (by omega) (by omega) (by omega)) ?_
                            refine jm (.int .i64 ((i + 1 : Nat) : Int)) ?_
                            refine jz fun X5 hX5 => ?_
                            have hB0 := hB0.bel hX5
                            have hb := bel_next hb hX5
                            clear hX5
                            have HM1 : Hid (mtB l l2 (i + 1) = true) := by
                              unfold mtB
                              rw [HMT.out, HX.out, HY.out, decide_eq_true HXY.out, decide_eq_true HNM.out]; rfl
                            have HS1 : Hid (smB l l2 (i + 1) = false) := by
                              unfold smB
                              rw [HSMi.out]; rfl
                            go_wp2
                            go_roundw
                            case rel => exact ⟨i + 1, by omega, by rw [HM1.out], by rw [HS1.out], rfl, hB0, hb⟩
                            case measure => simp [intOf]; omega
                          · have HNM : Hid (¬ nm48 x = nm48 y) := hnm
                            clear hnm
                            go_upto_region 11 with (fail)
                            refine jd ?_
                            refine jm (.bool false) ?_
                            refine jm (.bool false) ?_
                            refine jm (.slice (some ⟨b, off, none⟩) m c1) ?_
                            refine jm (.int .i64 (i : Int)) ?_
                            refine jv (.pointer (some ⟨b, off + i * 37, none⟩)) (exec_ixv Tryd.underlying30 info_sl _ _ (by rfl) b (off) m c1 i (by omega) (by rfl) (by rfl) rfl) ?_
                            refine jg (.agg (slc x).toArray) (fun X hX hF => exec_ldc 28 _ (by rfl) b (off + i * 37) (by rfl) Tryd.underlying28 rfl (slc x) X (hcx.below hX hbb) (info_slc ox)) ?_
                            refine jm (.slice (some ⟨b2, off2, none⟩) m2 c2) ?_
                            refine jm (.int .i64 (i : Int)) ?_
                            refine jv (.pointer (some ⟨b2, off2 + i * 37, none⟩)) (exec_ixv Tryd.underlying30 info_sl _ _ (by rfl) b2 (off2) m2 c2 i (by omega) (by rfl) (by rfl) rfl) ?_
                            refine jg (.agg (slc y).toArray) (fun X hX hF => exec_ldc 28 _ (by rfl) b2 (off2 + i * 37) (by rfl) Tryd.underlying28 rfl (slc y) X (hcy.below hX hbb2) (info_slc oy)) ?_
                            refine jv (.bool true) (exec_nesl _ _ _ (by rfl) x y ox oy (by rfl) (by rfl) _ (by rw [decide_eq_false HXY.out]; rfl)) ?_
                            refine jm (.bool true) ?_
                            refine jm (.slice (some ⟨b, off, none⟩) m c1) ?_
                            refine jm (.int .i64 (i : Int)) ?_
                            refine jv (.pointer (some ⟨b, off + i * 37, none⟩)) (exec_ixv Tryd.underlying30 info_sl _ _ (by rfl) b (off) m c1 i (by omega) (by rfl) (by rfl) rfl) ?_
                            refine jg (.agg (slc x).toArray) (fun X hX hF => exec_ldc 28 _ (by rfl) b (off + i * 37) (by rfl) Tryd.underlying28 rfl (slc x) X (hcx.below hX hbb) (info_slc ox)) ?_
                            refine jc (.agg ((nm48 x).map B8).toArray) (fun X hX hF => snmC x X ox (by omega) (HKK.out X (bel_next hb hX))) ?_
                            refine jm (.slice (some ⟨b2, off2, none⟩) m2 c2) ?_
                            refine jm (.int .i64 (i : Int)) ?_
                            refine jv (.pointer (some ⟨b2, off2 + i * 37, none⟩)) (exec_ixv Tryd.underlying30 info_sl _ _ (by rfl) b2 (off2) m2 c2 i (by omega) (by rfl) (by rfl) rfl) ?_
                            refine jg (.agg (slc y).toArray) (fun X hX hF => exec_ldc 28 _ (by rfl) b2 (off2 + i * 37) (by rfl) Tryd.underlying28 rfl (slc y) X (hcy.below hX hbb2) (info_slc oy)) ?_
                            refine jc (.agg ((nm48 y).map B8).toArray) (fun X hX hF => snmC y X oy (by omega) (HKK.out X (bel_next hb hX))) ?_
                            refine jv (.bool false) (exec_eqdg _ _ _ (by rfl) (nm48 x) (nm48 y) (nm_len _) (nm_len _) (by rfl) (by rfl) _ (eqs_f HNM.out)) ?_
                            refine jm (.bool false) ?_
                            refine jm (.bool false) ?_
                            refine jm (.bool false) ?_
                            refine jz fun X3 hX3 => ?_
                            have hB0 := hB0.bel hX3
                            have hcx := hcx.below hX3 hbb
                            have hcy := hcy.below hX3 hbb2
                            replace hbb := Nat.lt_of_lt_of_le hbb (hX3).size
                            replace hbb2 := Nat.lt_of_lt_of_le hbb2 (hX3).size
                            have hb := bel_next hb hX3
                            clear hX3
                            go_upto_region 12 with (fail)
                            refine jd ?_
                            refine jm (.bool false) ?_
                            refine jm (.bool false) ?_
                            refine js ?_
                            refine js ?_
                            refine js ?_
                            refine js ?_
                            refine js ?_
                            refine js ?_
                            refine js ?_
                            refine js ?_
                            refine js ?_
                            refine jm (.bool false) ?_
                            refine jm (.bool false) ?_
                            refine jz fun X4 hX4 => ?_
                            have hB0 := hB0.bel hX4
                            have hcx := hcx.below hX4 hbb
                            have hcy := hcy.below hX4 hbb2
                            replace hbb := Nat.lt_of_lt_of_le hbb (hX4).size
                            replace hbb2 := Nat.lt_of_lt_of_le hbb2 (hX4).size
                            have hb := bel_next hb hX4
                            clear hX4
                            clear hcx hcy hbb hbb2
                            go_upto_region 13 with (fail)
                            refine jp ?_
                            refine jv (.int .i64 ((i + 1 : Nat) : Int)) (exec_add _ _ _ _ (by rfl) (i : Int) 1 ((i + 1 : Nat) : Int) (by rfl) (by rfl) (by omega) (by omega) (by omega)) ?_
                            refine jm (.int .i64 ((i + 1 : Nat) : Int)) ?_
                            refine jz fun X5 hX5 => ?_
                            have hB0 := hB0.bel hX5
                            have hb := bel_next hb hX5
                            clear hX5
                            have HM1 : Hid (mtB l l2 (i + 1) = false) := by
                              unfold mtB
                              rw [HMT.out, HX.out, HY.out, decide_eq_true HXY.out, decide_eq_false HNM.out]; rfl
                            have HS1 : Hid (smB l l2 (i + 1) = false) := by
                              unfold smB
                              rw [HSMi.out]; rfl
                            go_wp2
                            go_roundw
                            case rel => exact ⟨i + 1, by omega, by rw [HM1.out], by rw [HS1.out], rfl, hB0, hb⟩
                            case measure => simp [intOf]; omega
                        · have HSMi := Lib.hid hsm
                          clear hsm
                          by_cases hnm : nm48 x = nm48 y
                          · have HNM := Lib.hid hnm
                            clear hnm
                            go_upto_region 11 with (fail)
                            refine jd ?_
                            refine jm (.bool false) ?_
                            refine jm (.bool false) ?_
                            refine jm (.slice (some ⟨b, off, none⟩) m c1) ?_
                            refine jm (.int .i64 (i : Int)) ?_
                            refine jv (.pointer (some ⟨b, off + i * 37, none⟩)) (exec_ixv Tryd.underlying30 info_sl _ _ (by rfl) b (off) m c1 i (by omega) (by rfl) (by rfl) rfl) ?_
                            refine jg (.agg (slc x).toArray) (fun X hX hF => exec_ldc 28 _ (by rfl) b (off + i * 37) (by rfl) Tryd.underlying28 rfl (slc x) X (hcx.below hX hbb) (info_slc ox)) ?_
                            refine jm (.slice (some ⟨b2, off2, none⟩) m2 c2) ?_
                            refine jm (.int .i64 (i : Int)) ?_
                            refine jv (.pointer (some ⟨b2, off2 + i * 37, none⟩)) (exec_ixv Tryd.underlying30 info_sl _ _ (by rfl) b2 (off2) m2 c2 i (by omega) (by rfl) (by rfl) rfl) ?_
                            refine jg (.agg (slc y).toArray) (fun X hX hF => exec_ldc 28 _ (by rfl) b2 (off2 + i * 37) (by rfl) Tryd.underlying28 rfl (slc y) X (hcy.below hX hbb2) (info_slc oy)) ?_
                            refine jv (.bool true) (exec_nesl _ _ _ (by rfl) x y ox oy (by rfl) (by rfl) _ (by rw [decide_eq_false HXY.out]; rfl)) ?_
                            refine jm (.bool true) ?_
                            refine jm (.slice (some ⟨b, off, none⟩) m c1) ?_
                            refine jm (.int .i64 (i : Int)) ?_
                            refine jv (.pointer (some ⟨b, off + i * 37, none⟩)) (exec_ixv Tryd.underlying30 info_sl _ _ (by rfl) b (off) m c1 i (by omega) (by rfl) (by rfl) rfl) ?_
                            refine jg (.agg (slc x).toArray) (fun X hX hF => exec_ldc 28 _ (by rfl) b (off + i * 37) (by rfl) Tryd.underlying28 rfl (slc x) X (hcx.below hX hbb) (info_slc ox)) ?_
                            refine jc (.agg ((nm48 x).map B8).toArray) (fun X hX hF => snmC x X ox (by omega) (HKK.out X (bel_next hb hX))) ?_
                            refine jm (.slice (some ⟨b2, off2, none⟩) m2 c2) ?_
                            refine jm (.int .i64 (i : Int)) ?_
                            refine jv (.pointer (some ⟨b2, off2 + i * 37, none⟩)) (exec_ixv Tryd.underlying30 info_sl _ _ (by rfl) b2 (off2) m2 c2 i (by omega) (by rfl) (by rfl) rfl) ?_
                            refine jg (.agg (slc y).toArray) (fun X hX hF => exec_ldc 28 _ (by rfl) b2 (off2 + i * 37) (by rfl) Tryd.underlying28 rfl (slc y) X (hcy.below hX hbb2) (info_slc oy)) ?_
                            refine jc (.agg ((nm48 y).map B8).toArray) (fun X hX hF => snmC y X oy (by omega) (HKK.out X (bel_next hb hX))) ?_
                            refine jv (.bool true) (exec_eqdg _ _ _ (by rfl) (nm48 x) (nm48 y) (nm_len _) (nm_len _) (by rfl) (by rfl) _ (eqs_t HNM.out)) ?_
                            refine jm (.bool true) ?_
                            refine jm (.bool true) ?_
                            refine jm (.bool true) ?_
                            refine jz fun X3 hX3 => ?_
                            have hB0 := hB0.bel hX3
                            have hcx := hcx.below hX3 hbb
                            have hcy := hcy.below hX3 hbb2
                            replace hbb := Nat.lt_of_lt_of_le hbb (hX3).size
                            replace hbb2 := Nat.lt_of_lt_of_le hbb2 (hX3).size
                            have hb := bel_next hb hX3
                            clear hX3
                            go_upto_region 12 with (fail)
                            refine jd ?_
                            refine jm (.bool true) ?_
                            refine jm (.bool true) ?_
                            refine jm (.slice (some ⟨b, off, none⟩) m c1) ?_
                            refine jm (.int .i64 (i : Int)) ?_
                            refine jv (.pointer (some ⟨b, off + i * 37, none⟩)) (exec_ixv Tryd.underlying30 info_sl _ _ (by rfl) b (off) m c1 i (by omega) (by rfl) (by rfl) rfl) ?_
                            refine jg (.agg (slc x).toArray) (fun X hX hF => exec_ldc 28 _ (by rfl) b (off + i * 37) (by rfl) Tryd.underlying28 rfl (slc x) X (hcx.below hX hbb) (info_slc ox)) ?_
                            refine jm (.slice (some ⟨b2, off2, none⟩) m2 c2) ?_
                            refine jm (.int .i64 (i : Int)) ?_
                            refine jv (.pointer (some ⟨b2, off2 + i * 37, none⟩)) (exec_ixv Tryd.underlying30 info_sl _ _ (by rfl) b2 (off2) m2 c2 i (by omega) (by rfl) (by rfl) rfl) ?_
                            refine jg (.agg (slc y).toArray) (fun X hX hF => exec_ldc 28 _ (by rfl) b2 (off2 + i * 37) (by rfl) Tryd.underlying28 rfl (slc y) X (hcy.below hX hbb2) (info_slc oy)) ?_
                            refine jv (.bool false) (exec_eqsl _ _ _ (by rfl) x y ox oy (by rfl) (by rfl) _ (decide_eq_false HXY.out)) ?_
                            refine jm (.bool false) ?_
                            refine jm (.bool false) ?_
                            refine jz fun X4 hX4 => ?_
                            have hB0 := hB0.bel hX4
                            have hcx := hcx.below hX4 hbb
                            have hcy := hcy.below hX4 hbb2
                            replace hbb := Nat.lt_of_lt_of_le hbb (hX4).size
                            replace hbb2 := Nat.lt_of_lt_of_le hbb2 (hX4).size
                            have hb := bel_next hb hX4
                            clear hX4
                            clear hcx hcy hbb hbb2
                            go_upto_region 13 with (fail)
                            refine jp ?_
                            refine jv (.int .i64 ((i + 1 : Nat) : Int)) (exec_add _ _ _ _ (by rfl) (i : Int) 1 ((i + 1 : Nat) : Int) (by rfl) (by rfl) (by omega) (by omega) (by omega)) ?_
                            refine jm (.int .i64 ((i + 1 : Nat) : Int)) ?_
                            refine jz fun X5 hX5 => ?_
                            have hB0 := hB0.bel hX5
                            have hb := bel_next hb hX5
                            clear hX5
                            have HM1 : Hid (mtB l l2 (i + 1) = true) := by
                              unfold mtB
                              rw [HMT.out, HX.out, HY.out, decide_eq_true HXY.out, decide_eq_true HNM.out]; rfl
                            have HS1 : Hid (smB l l2 (i + 1) = false) := by
                              unfold smB
                              rw [HSMi.out, HX.out, HY.out, decide_eq_false HXY.out]; rfl
                            go_wp2
                            go_roundw
                            case rel => exact ⟨i + 1, by omega, by rw [HM1.out], by rw [HS1.out], rfl, hB0, hb⟩
                            case measure => simp [intOf]; omega
                          · have HNM : Hid (¬ nm48 x = nm48 y) := hnm
                            clear hnm
                            go_upto_region 11 with (fail)
                            refine jd ?_
                            refine jm (.bool false) ?_
                            refine jm (.bool false) ?_
                            refine jm (.slice (some ⟨b, off, none⟩) m c1) ?_
                            refine jm (.int .i64 (i : Int)) ?_
                            refine jv (.pointer (some ⟨b, off + i * 37, none⟩)) (exec_ixv Tryd.underlying30 info_sl _ _ (by rfl) b (off) m c1 i (by omega) (by rfl) (by rfl) rfl) ?_
                            refine jg (.agg (slc x).toArray) (fun X hX hF => exec_ldc 28 _ (by rfl) b (off + i * 37) (by rfl) Tryd.underlying28 rfl (slc x) X (hcx.below hX hbb) (info_slc ox)) ?_
                            refine jm (.slice (some ⟨b2, off2, none⟩) m2 c2) ?_
                            refine jm (.int .i64 (i : Int)) ?_
                            refine jv (.pointer (some ⟨b2, off2 + i * 37, none⟩)) (exec_ixv Tryd.underlying30 info_sl _ _ (by rfl) b2 (off2) m2 c2 i (by omega) (by rfl) (by rfl) rfl) ?_
                            refine jg (.agg (slc y).toArray) (fun X hX hF => exec_ldc 28 _ (by rfl) b2 (off2 + i * 37) (by rfl) Tryd.underlying28 rfl (slc y) X (hcy.below hX hbb2) (info_slc oy)) ?_
                            refine jv (.bool true) (exec_nesl _ _ _ (by rfl) x y ox oy (by rfl) (by rfl) _ (by rw [decide_eq_false HXY.out]; rfl)) ?_
                            refine jm (.bool true) ?_
                            refine jm (.slice (some ⟨b, off, none⟩) m c1) ?_
                            refine jm (.int .i64 (i : Int)) ?_
                            refine jv (.pointer (some ⟨b, off + i * 37, none⟩)) (exec_ixv Tryd.underlying30 info_sl _ _ (by rfl) b (off) m c1 i (by omega) (by rfl) (by rfl) rfl) ?_
                            refine jg (.agg (slc x).toArray) (fun X hX hF => exec_ldc 28 _ (by rfl) b (off + i * 37) (by rfl) Tryd.underlying28 rfl (slc x) X (hcx.below hX hbb) (info_slc ox)) ?_
                            refine jc (.agg ((nm48 x).map B8).toArray) (fun X hX hF => snmC x X ox (by omega) (HKK.out X (bel_next hb hX))) ?_
                            refine jm (.slice (some ⟨b2, off2, none⟩) m2 c2) ?_
                            refine jm (.int .i64 (i : Int)) ?_
                            refine jv (.pointer (some ⟨b2, off2 + i * 37, none⟩)) (exec_ixv Tryd.underlying30 info_sl _ _ (by rfl) b2 (off2) m2 c2 i (by omega) (by rfl) (by rfl) rfl) ?_
                            refine jg (.agg (slc y).toArray) (fun X hX hF => exec_ldc 28 _ (by rfl) b2 (off2 + i * 37) (by rfl) Tryd.underlying28 rfl (slc y) X (hcy.below hX hbb2) (info_slc oy)) ?_
                            refine jc (.agg ((nm48 y).map B8).toArray) (fun X hX hF => snmC y X oy (by omega) (HKK.out X (bel_next hb hX))) ?_
                            refine jv (.bool false) (exec_eqdg _ _ _ (by rfl) (nm48 x) (nm48 y) (nm_len _) (nm_len _) (by rfl) (by rfl) _ (eqs_f HNM.out)) ?_
                            refine jm (.bool false) ?_
                            refine jm (.bool false) ?_
                            refine jm (.bool false) ?_
                            refine jz fun X3 hX3 => ?_
                            have hB0 := hB0.bel hX3
                            have hcx := hcx.below hX3 hbb
                            have hcy := hcy.below hX3 hbb2
                            replace hbb := Nat.lt_of_lt_of_le hbb (hX3).size
                            replace hbb2 := Nat.lt_of_lt_of_le hbb2 (hX3).size
                            have hb := bel_next hb hX3
                            clear hX3
                            go_upto_region 12 with (fail)
                            refine jd ?_
                            refine jm (.bool true) ?_
                            refine jm (.bool true) ?_
                            refine jm (.slice (some ⟨b, off, none⟩) m c1) ?_
                            refine jm (.int .i64 (i : Int)) ?_
                            refine jv (.pointer (some ⟨b, off + i * 37, none⟩)) (exec_ixv Tryd.underlying30 info_sl _ _ (by rfl) b (off) m c1 i (by omega) (by rfl) (by rfl) rfl) ?_
                            refine jg (.agg (slc x).toArray) (fun X hX hF => exec_ldc 28 _ (by rfl) b (off + i * 37) (by rfl) Tryd.underlying28 rfl (slc x) X (hcx.below hX hbb) (info_slc ox)) ?_
                            refine jm (.slice (some ⟨b2, off2, none⟩) m2 c2) ?_
                            refine jm (.int .i64 (i : Int)) ?_
                            refine jv (.pointer (some ⟨b2, off2 + i * 37, none⟩)) (exec_ixv Tryd.underlying30 info_sl _ _ (by rfl) b2 (off2) m2 c2 i (by omega) (by rfl) (by rfl) rfl) ?_
                            refine jg (.agg (slc y).toArray) (fun X hX hF => exec_ldc 28 _ (by rfl) b2 (off2 + i * 37) (by rfl) Tryd.underlying28 rfl (slc y) X (hcy.below hX hbb2) (info_slc oy)) ?_
                            refine jv (.bool false) (exec_eqsl _ _ _ (by rfl) x y ox oy (by rfl) (by rfl) _ (decide_eq_false HXY.out)) ?_
                            refine jm (.bool false) ?_
                            refine jm (.bool false) ?_
                            refine jz fun X4 hX4 => ?_
                            have hB0 := hB0.bel hX4
                            have hcx := hcx.below hX4 hbb
                            have hcy := hcy.below hX4 hbb2
                            replace hbb := Nat.lt_of_lt_of_le hbb (hX4).size
                            replace hbb2 := Nat.lt_of_lt_of_le hbb2 (hX4).size
                            have hb := bel_next hb hX4
                            clear hX4
                            clear hcx hcy hbb hbb2
                            go_upto_region 13 with (fail)
                            refine jp ?_
                            refine jv (.int .i64 ((i + 1 : Nat) : Int)) (exec_add _ _ _ _ (by rfl) (i : Int) 1 ((i + 1 : Nat) : Int) (by rfl) (by rfl) (by omega) (by omega) (by omega)) ?_
                            refine jm (.int .i64 ((i + 1 : Nat) : Int)) ?_
                            refine jz fun X5 hX5 => ?_
                            have hB0 := hB0.bel hX5
                            have hb := bel_next hb hX5
                            clear hX5
                            have HM1 : Hid (mtB l l2 (i + 1) = false) := by
                              unfold mtB
                              rw [HMT.out, HX.out, HY.out, decide_eq_true HXY.out, decide_eq_false HNM.out]; rfl
                            have HS1 : Hid (smB l l2 (i + 1) = false) := by
                              unfold smB
                              rw [HSMi.out, HX.out, HY.out, decide_eq_false HXY.out]; rfl
                            go_wp2
                            go_roundw
                            case rel => exact ⟨i + 1, by omega, by rw [HM1.out], by rw [HS1.out], rfl, hB0, hb⟩
                            case measure => simp [intOf]; omega
                      · have HMT := Lib.hid hmt
                        clear hmt
                        cases hsm : smB l l2 i
                        · have HSMi := Lib.hid hsm
                          clear hsm
                          go_upto_region 11 with (fail)
                          refine jd ?_
                          refine jm (.bool true) ?_
                          refine jm (.bool true) ?_
                          refine js ?_
                          refine js ?_
                          refine js ?_
                          refine js ?_
                          refine js ?_
                          refine js ?_
                          refine js ?_
                          refine js ?_
                          refine js ?_
                          refine js ?_
                          refine js ?_
                          refine js ?_
                          refine js ?_
                          refine js ?_
                          refine js ?_
                          refine js ?_
                          refine js ?_
                          refine js ?_
                          refine js ?_
                          refine js ?_
                          refine js ?_
                          refine js ?_
                          refine jm (.bool true) ?_
                          refine jm (.bool true) ?_
                          refine jz fun X3 hX3 => ?_
                          have hB0 := hB0.bel hX3
                          have hcx := hcx.below hX3 hbb
                          have hcy := hcy.below hX3 hbb2
                          replace hbb := Nat.lt_of_lt_of_le hbb (hX3).size
                          replace hbb2 := Nat.lt_of_lt_of_le hbb2 (hX3).size
                          have hb := bel_next hb hX3
                          clear hX3
                          go_upto_region 12 with (fail)
                          refine jd ?_
                          refine jm (.bool false) ?_
                          refine jm (.bool false) ?_
                          refine js ?_
                          refine js ?_
                          refine js ?_
                          refine js ?_
                          refine js ?_
                          refine js ?_
                          refine js ?_
                          refine js ?_
                          refine js ?_
                          refine jm (.bool false) ?_
                          refine jm (.bool false) ?_
                          refine jz fun X4 hX4 => ?_
                          have hB0 := hB0.bel hX4
                          have hcx := hcx.below hX4 hbb
                          have hcy := hcy.below hX4 hbb2
                          replace hbb := Nat.lt_of_lt_of_le hbb (hX4).size
                          replace hbb2 := Nat.lt_of_lt_of_le hbb2 (hX4).size
                          have hb := bel_next hb hX4
                          clear hX4
                          clear hcx hcy hbb hbb2
                          go_upto_region 13 with (fail)
                          refine jp ?_
                          refine jv (.int .i64 ((i + 1 : Nat) : Int)) (exec_add _ _ _ _ (by rfl) (i : Int) 1 ((i + 1 : Nat) : Int) (by rfl) (by rfl) (by omega) (by omega) (by omega)) ?_
                          refine jm (.int .i64 ((i + 1 : Nat) : Int)) ?_
                          refine jz fun X5 hX5 => ?_
                          have hB0 := hB0.bel hX5
                          have hb := bel_next hb hX5
                          clear hX5
                          have HM1 : Hid (mtB l l2 (i + 1) = true) := by
                            unfold mtB
                            rw [HMT.out]; rfl
                          have HS1 : Hid (smB l l2 (i + 1) = false) := by
                            unfold smB
                            rw [HSMi.out]; rfl
                          go_wp2
                          go_roundw
                          case rel => exact ⟨i + 1, by omega, by rw [HM1.out], by rw [HS1.out], rfl, hB0, hb⟩
                          case measure => simp [intOf]; omega
                        · have HSMi := Lib.hid hsm
                          clear hsm
                          go_upto_region 11 with (fail)
                          refine jd ?_
                          refine jm (.bool true) ?_
                          refine jm (.bool true) ?_
                          refine js ?_
                          refine js ?_
                          refine js ?_
                          refine js ?_
                          refine js ?_
                          refine js ?_
                          refine js ?_
                          refine js ?_
                          refine js ?_
                          refine js ?_
                          refine js ?_
                          refine js ?_
                          refine js ?_
                          refine js ?_
                          refine js ?_
                          refine js ?_
                          refine js ?_
                          refine js ?_
                          refine js ?_
                          refine js ?_
                          refine js ?_
                          refine js ?_
                          refine jm (.bool true) ?_
                          refine jm (.bool true) ?_
                          refine jz fun X3 hX3 => ?_
                          have hB0 := hB0.bel hX3
                          have hcx := hcx.below hX3 hbb
                          have hcy := hcy.below hX3 hbb2
                          replace hbb := Nat.lt_of_lt_of_le hbb (hX3).size
                          replace hbb2 := Nat.lt_of_lt_of_le hbb2 (hX3).size
                          have hb := bel_next hb hX3
                          clear hX3
                          go_upto_region 12 with (fail)
                          refine jd ?_
                          refine jm (.bool true) ?_
                          refine jm (.bool true) ?_
                          refine jm (.slice (some ⟨b, off, none⟩) m c1) ?_
                          refine jm (.int .i64 (i : Int)) ?_
                          refine jv (.pointer (some ⟨b, off + i * 37, none⟩)) (exec_ixv Tryd.underlying30 info_sl _ _ (by rfl) b (off) m c1 i (by omega) (by rfl) (by rfl) rfl) ?_
                          refine jg (.agg (slc x).toArray) (fun X hX hF => exec_ldc 28 _ (by rfl) b (off + i * 37) (by rfl) Tryd.underlying28 rfl (slc x) X (hcx.below hX hbb) (info_slc ox)) ?_
                          refine jm (.slice (some ⟨b2, off2, none⟩) m2 c2) ?_
                          refine jm (.int .i64 (i : Int)) ?_
                          refine jv (.pointer (some ⟨b2, off2 + i * 37, none⟩)) (exec_ixv Tryd.underlying30 info_sl _ _ (by rfl) b2 (off2) m2 c2 i (by omega) (by rfl) (by rfl) rfl) ?_
                          refine jg (.agg (slc y).toArray) (fun X hX hF => exec_ldc 28 _ (by rfl) b2 (off2 + i * 37) (by rfl) Tryd.underlying28 rfl (slc y) X (hcy.below hX hbb2) (info_slc oy)) ?_
                          refine jv (.bool false) (exec_eqsl _ _ _ (by rfl) x y ox oy (by rfl) (by rfl) _ (decide_eq_false HXY.out)) ?_
                          refine jm (.bool false) ?_
                          refine jm (.bool false) ?_
                          refine jz fun X4 hX4 => ?_
                          have hB0 := hB0.bel hX4
                          have hcx := hcx.below hX4 hbb
                          have hcy := hcy.below hX4 hbb2
                          replace hbb := Nat.lt_of_lt_of_le hbb (hX4).size
                          replace hbb2 := Nat.lt_of_lt_of_le hbb2 (hX4).size
                          have hb := bel_next hb hX4
                          clear hX4
                          clear hcx hcy hbb hbb2
                          go_upto_region 13 with (fail)
                          refine jp ?_
                          refine jv (.int .i64 ((i + 1 : Nat) : Int)) (exec_add _ _ _ _ (by rfl) (i : Int) 1 ((i + 1 : Nat) : Int) (by rfl) (by rfl) (by omega) (by omega) (by omega)) ?_
                          refine jm (.int .i64 ((i + 1 : Nat) : Int)) ?_
                          refine jz fun X5 hX5 => ?_
                          have hB0 := hB0.bel hX5
                          have hb := bel_next hb hX5
                          clear hX5
                          have HM1 : Hid (mtB l l2 (i + 1) = true) := by
                            unfold mtB
                            rw [HMT.out]; rfl
                          have HS1 : Hid (smB l l2 (i + 1) = false) := by
                            unfold smB
                            rw [HSMi.out, HX.out, HY.out, decide_eq_false HXY.out]; rfl
                          go_wp2
                          go_roundw
                          case rel => exact ⟨i + 1, by omega, by rw [HM1.out], by rw [HS1.out], rfl, hB0, hb⟩
                          case measure => simp [intOf]; omega
                  · obtain rfl : i = k + 1 := by omega
                    cases hs : smB l l2 (k + 1)
                    · have HS := Lib.hid hs
                      clear hs
                      have hmm : mtB l l2 (k + 1) = true := by have h9 := HSM.out; rw [HS.out] at h9; exact h9
                      rw [hmm]
                      clear hmm
                      go_upto_region 9 with (fail)
                      refine jp ?_
                      refine jv (.bool false) (exec_lss _ _ _ _ (by rfl) .i64 ((k + 1 : Nat) : Int) ((k : Int) + 1) (by rfl) (by rfl) false (decide_eq_false (by omega))) ?_
                      refine jz fun X1 hX1 => ?_
                      have hB0 := hB0.bel hX1
                      have hb := bel_next hb hX1
                      clear hX1
                      go_upto_region 14 with (fail)
                      refine jp ?_
                      refine jc (.bool true) (fun X hX hF => sanC X (HKK.out X (bel_next hb hX))) ?_
                      refine jm (.bool true) ?_
                      refine jm (.bool false) ?_
                      refine jm (.bool false) ?_
                      refine jm (.bool true) ?_
                      refine jm (.bool true) ?_
                      refine jm (.bool true) ?_
                      refine jm (.bool true) ?_
                      refine jz fun X2 hX2 => ?_
                      have hB0 := hB0.bel hX2
                      have hb := bel_next hb hX2
                      clear hX2
                      go_wp2
                      go_ret
                      exact ⟨rfl, hb⟩
                    · have HS := Lib.hid hs
                      clear hs
                      go_upto_region 9 with (fail)
                      refine jp ?_
                      refine jv (.bool false) (exec_lss _ _ _ _ (by rfl) .i64 ((k + 1 : Nat) : Int) ((k : Int) + 1) (by rfl) (by rfl) false (decide_eq_false (by omega))) ?_
                      refine jz fun X1 hX1 => ?_
                      have hB0 := hB0.bel hX1
                      have hb := bel_next hb hX1
                      clear hX1
                      go_upto_region 14 with (fail)
                      refine jp ?_
                      refine jc (.bool true) (fun X hX hF => sanC X (HKK.out X (bel_next hb hX))) ?_
                      refine jm (.bool true) ?_
                      refine jm (.bool true) ?_
                      refine jm (.bool true) ?_
                      refine js ?_
                      refine jm (.bool true) ?_
                      refine jm (.bool true) ?_
                      refine jm (.bool true) ?_
                      refine jz fun X2 hX2 => ?_
                      have hB0 := hB0.bel hX2
                      have hb := bel_next hb hX2
                      clear hX2
                      go_wp2
                      go_ret
                      exact ⟨rfl, hb⟩
              · have HNM : Hid (¬ nm48 x = nm48 y) := hnm
                have HXY : Hid (¬ x = y) := fun h9 => hnm (by rw [h9])
                clear hnm
                go_upto_region 5 with (fail)
                refine jd ?_
                refine jm (.slice (some ⟨b, off, none⟩) m c1) ?_
                refine jm (.int .i64 (k : Int)) ?_
                refine jv (.pointer (some ⟨b, off + k * 37, none⟩)) (exec_ixv Tryd.underlying30 info_sl _ _ (by rfl) b (off) m c1 k (by omega) (by rfl) (by rfl) rfl) ?_
                refine jg (.agg (slc x).toArray) (fun X hX hF => exec_ldc 28 _ (by rfl) b (off + k * 37) (by rfl) Tryd.underlying28 rfl (slc x) X (hcx.below hX hbb) (info_slc ox)) ?_
                refine jc (.agg ((nm48 x).map B8).toArray) (fun X hX hF => snmC x X ox (by omega) (HKK.out X (bel_next hb hX))) ?_
                refine jm (.slice (some ⟨b2, off2, none⟩) m2 c2) ?_
                refine jm (.int .i64 (k : Int)) ?_
                refine jv (.pointer (some ⟨b2, off2 + k * 37, none⟩)) (exec_ixv Tryd.underlying30 info_sl _ _ (by rfl) b2 (off2) m2 c2 k (by omega) (by rfl) (by rfl) rfl) ?_
                refine jg (.agg (slc y).toArray) (fun X hX hF => exec_ldc 28 _ (by rfl) b2 (off2 + k * 37) (by rfl) Tryd.underlying28 rfl (slc y) X (hcy.below hX hbb2) (info_slc oy)) ?_
                refine jc (.agg ((nm48 y).map B8).toArray) (fun X hX hF => snmC y X oy (by omega) (HKK.out X (bel_next hb hX))) ?_
                refine jv (.bool true) (exec_nedg _ _ _ (by rfl) (nm48 x) (nm48 y) (nm_len _) (nm_len _) (by rfl) (by rfl) _ (nes_t HNM.out)) ?_
                refine jz fun X4 hX4 => ?_
                have hB0 := hB0.bel hX4
                have hB1 := hB1.bel hX4
                have hcx := hcx.below hX4 hbb
                have hcy := hcy.below hX4 hbb2
                replace hbb := Nat.lt_of_lt_of_le hbb (hX4).size
                replace hbb2 := Nat.lt_of_lt_of_le hbb2 (hX4).size
                have hb := bel_next hb hX4
                clear hX4
                go_upto_region 6 with (fail)
                refine jd ?_
                refine jc (.bool true) (fun X hX hF => sanC X (HKK.out X (bel_next hb hX))) ?_
                refine jm (.bool true) ?_
                refine jm (.slice (some ⟨b, off, none⟩) m c1) ?_
                refine jm (.int .i64 (k : Int)) ?_
                refine jv (.pointer (some ⟨b, off + k * 37, none⟩)) (exec_ixv Tryd.underlying30 info_sl _ _ (by rfl) b (off) m c1 k (by omega) (by rfl) (by rfl) rfl) ?_
                refine jg (.agg (slc x).toArray) (fun X hX hF => exec_ldc 28 _ (by rfl) b (off + k * 37) (by rfl) Tryd.underlying28 rfl (slc x) X (hcx.below hX hbb) (info_slc ox)) ?_
                refine jm (.slice (some ⟨b2, off2, none⟩) m2 c2) ?_
                refine jm (.int .i64 (k : Int)) ?_
                refine jv (.pointer (some ⟨b2, off2 + k * 37, none⟩)) (exec_ixv Tryd.underlying30 info_sl _ _ (by rfl) b2 (off2) m2 c2 k (by omega) (by rfl) (by rfl) rfl) ?_
                refine jg (.agg (slc y).toArray) (fun X hX hF => exec_ldc 28 _ (by rfl) b2 (off2 + k * 37) (by rfl) Tryd.underlying28 rfl (slc y) X (hcy.below hX hbb2) (info_slc oy)) ?_
                refine jv (.bool true) (exec_nesl _ _ _ (by rfl) x y ox oy (by rfl) (by rfl) _ (by rw [decide_eq_false HXY.out]; rfl)) ?_
                refine jm (.bool true) ?_
                refine jm (.bool true) ?_
                refine jz fun X5 hX5 => ?_
                have hB0 := hB0.bel hX5
                have hB1 := hB1.bel hX5
                have hcx := hcx.below hX5 hbb
                have hcy := hcy.below hX5 hbb2
                replace hbb := Nat.lt_of_lt_of_le hbb (hX5).size
                replace hbb2 := Nat.lt_of_lt_of_le hbb2 (hX5).size
                have hb := bel_next hb hX5
                clear hX5
                go_wp2
                go_ret
                exact ⟨rfl, hb⟩
            · clear hrl hrl2
              obtain ⟨e2, he29⟩ : ∃ e2, e2 = lgE mk48 nm48 r l2 := ⟨_, rfl⟩
              have HE2 : Hid (lgE mk48 nm48 r l2 = e2) := he29.symm
              rw [← he29] at g2
              have H2 : Hid (¬ e2 = 0) := g2
              clear g2 he29
              go_enter Tryd.func7, Tryd.ntmps7
              go_upto_region 1 with (fail)
              obtain ⟨W0, hW0, hB0, hB1, hb⟩ := start2 w 24 41 [.slice A r.length c] [.slice A1 m c1, .slice A2 m2 c2]
              rw [← hW0]
              clear hW0
              refine jd ?_
              refine jn (.pointer (some ⟨(w.heap.size + 1), 0, none⟩)) ?_
              refine jf (.slice A1 m c1) hB1 0 load_sl_a ?_
              refine jn (.pointer (some ⟨(w.heap.size + 1), 1, none⟩)) ?_
              refine jf (.slice A2 m2 c2) hB1 1 load_sl_a ?_
              refine jm (.slice A1 m c1) ?_
              refine jm (.slice A2 m2 c2) ?_
              refine jz fun X1 hX1 => ?_
              have hB0 := hB0.bel hX1
              have hB1 := hB1.bel hX1
              have hb := bel_next hb hX1
              clear hX1
              go_upto_region 2 with (fail)
              refine jp ?_
              refine jm (.slice A1 m c1) ?_
              refine jv (.int .i64 (m : Int)) (exec_lenv Tryd.underlying30 _ (by rfl) A1 m c1 (by rfl) _ rfl) ?_
              refine jv (.bool false) (exec_eqi _ _ _ _ (by rfl) .i64 (m : Int) 0 (by rfl) (by rfl) false (decide_eq_false (by omega))) ?_
              refine jm (.bool false) ?_
              refine jm (.slice A2 m2 c2) ?_
              refine jv (.int .i64 (m2 : Int)) (exec_lenv Tryd.underlying30 _ (by rfl) A2 m2 c2 (by rfl) _ rfl) ?_
              refine jv (.bool false) (exec_eqi _ _ _ _ (by rfl) .i64 (m2 : Int) 0 (by rfl) (by rfl) false (decide_eq_false (by omega))) ?_
              refine jm (.bool false) ?_
              refine jm (.bool false) ?_
              refine jm (.slice A1 m c1) ?_
              refine jv (.int .i64 (m : Int)) (exec_lenv Tryd.underlying30 _ (by rfl) A1 m c1 (by rfl) _ rfl) ?_
              refine jv (.bool false) (exec_gtr _ _ _ _ (by rfl) .i64 (m : Int) 20 (by rfl) (by rfl) false (decide_eq_false (by omega))) ?_
              refine jm (.bool false) ?_
              refine jm (.bool false) ?_
              refine jm (.slice A2 m2 c2) ?_
              refine jv (.int .i64 (m2 : Int)) (exec_lenv Tryd.underlying30 _ (by rfl) A2 m2 c2 (by rfl) _ rfl) ?_
              refine jv (.bool false) (exec_gtr _ _ _ _ (by rfl) .i64 (m2 : Int) 20 (by rfl) (by rfl) false (decide_eq_false (by omega))) ?_
              refine jm (.bool false) ?_
              refine jm (.bool false) ?_
              refine ja hB0 Tryd.underlying24 (by rfl) info_rg ?_
              refine jm (.slice A1 m c1) ?_
              refine jc (.int .i64 0) (fun X hX hF => mo (slgV r (.slice A r.length c) l (.slice A1 m c1) X (HR1.out X (bel_next hb hX)) (HL1.out X (bel_next hb hX)) HOK.out (HKK.out X (bel_next hb hX))) (by rw [G1.out])) ?_
              refine jv (.bool false) (exec_nei _ _ _ _ (by rfl) .i64 0 0 (by rfl) (by rfl) false (by rfl)) ?_
              refine jm (.bool false) ?_
              refine jm (.bool false) ?_
              refine ja hB0 Tryd.underlying24 (by rfl) info_rg ?_
              refine jm (.slice A2 m2 c2) ?_
              refine jc (.int .i64 e2) (fun X hX hF => mo (slgV r (.slice A r.length c) l2 (.slice A2 m2 c2) X (HR1.out X (bel_next hb hX)) (HL2.out X (bel_next hb hX)) HOK2.out (HKK.out X (bel_next hb hX))) (by rw [HE2.out])) ?_
              refine jv (.bool true) (exec_nei _ _ _ _ (by rfl) .i64 e2 0 (by rfl) (by rfl) true (by rw [decide_eq_false H2.out]; rfl)) ?_
              refine jm (.bool true) ?_
              refine jz fun X2 hX2 => ?_
              have hB0 := hB0.bel hX2
              have hB1 := hB1.bel hX2
              have hb := bel_next hb hX2
              clear hX2
              go_upto_region 3 with (fail)
              refine jp ?_
              refine jc (.bool true) (fun X hX hF => sanC X (HKK.out X (bel_next hb hX))) ?_
              refine jm (.bool true) ?_
              refine jz fun X3 hX3 => ?_
              have hB0 := hB0.bel hX3
              have hB1 := hB1.bel hX3
              have hb := bel_next hb hX3
              clear hX3
              go_wp2
              go_ret
              exact ⟨rfl, hb⟩
          · clear hrl hrl2
            obtain ⟨e1, he19⟩ : ∃ e1, e1 = lgE mk48 nm48 r l := ⟨_, rfl⟩
            have HE1 : Hid (lgE mk48 nm48 r l = e1) := he19.symm
            rw [← he19] at g1
            have H1 : Hid (¬ e1 = 0) := g1
            clear g1 he19
            go_enter Tryd.func7, Tryd.ntmps7
            go_upto_region 1 with (fail)
            obtain ⟨W0, hW0, hB0, hB1, hb⟩ := start2 w 24 41 [.slice A r.length c] [.slice A1 m c1, .slice A2 m2 c2]
            rw [← hW0]
            clear hW0
            refine jd ?_
            refine jn (.pointer (some ⟨(w.heap.size + 1), 0, none⟩)) ?_
            refine jf (.slice A1 m c1) hB1 0 load_sl_a ?_
            refine jn (.pointer (some ⟨(w.heap.size + 1), 1, none⟩)) ?_
            refine jf (.slice A2 m2 c2) hB1 1 load_sl_a ?_
            refine jm (.slice A1 m c1) ?_
            refine jm (.slice A2 m2 c2) ?_
            refine jz fun X1 hX1 => ?_
            have hB0 := hB0.bel hX1
            have hB1 := hB1.bel hX1
            have hb := bel_next hb hX1
            clear hX1
            go_upto_region 2 with (fail)
            refine jp ?_
            refine jm (.slice A1 m c1) ?_
            refine jv (.int .i64 (m : Int)) (exec_lenv Tryd.underlying30 _ (by rfl) A1 m c1 (by rfl) _ rfl) ?_
            refine jv (.bool false) (exec_eqi _ _ _ _ (by rfl) .i64 (m : Int) 0 (by rfl) (by rfl) false (decide_eq_false (by omega))) ?_
            refine jm (.bool false) ?_
            refine jm (.slice A2 m2 c2) ?_
            refine jv (.int .i64 (m2 : Int)) (exec_lenv Tryd.underlying30 _ (by rfl) A2 m2 c2 (by rfl) _ rfl) ?_
            refine jv (.bool false) (exec_eqi _ _ _ _ (by rfl) .i64 (m2 : Int) 0 (by rfl) (by rfl) false (decide_eq_false (by omega))) ?_
            refine jm (.bool false) ?_
            refine jm (.bool false) ?_
            refine jm (.slice A1 m c1) ?_
            refine jv (.int .i64 (m : Int)) (exec_lenv Tryd.underlying30 _ (by rfl) A1 m c1 (by rfl) _ rfl) ?_
            refine jv (.bool false) (exec_gtr _ _ _ _ (by rfl) .i64 (m : Int) 20 (by rfl) (by rfl) false (decide_eq_false (by omega))) ?_
            refine jm (.bool false) ?_
            refine jm (.bool false) ?_
            refine jm (.slice A2 m2 c2) ?_
            refine jv (.int .i64 (m2 : Int)) (exec_lenv Tryd.underlying30 _ (by rfl) A2 m2 c2 (by rfl) _ rfl) ?_
            refine jv (.bool false) (exec_gtr _ _ _ _ (by rfl) .i64 (m2 : Int) 20 (by rfl) (by rfl) false (decide_eq_false (by omega))) ?_
            refine jm (.bool false) ?_
            refine jm (.bool false) ?_
            refine ja hB0 Tryd.underlying24 (by rfl) info_rg ?_
            refine jm (.slice A1 m c1) ?_
            refine jc (.int .i64 e1) (fun X hX hF => mo (slgV r (.slice A r.length c) l (.slice A1 m c1) X (HR1.out X (bel_next hb hX)) (HL1.out X (bel_next hb hX)) HOK.out (HKK.out X (bel_next hb hX))) (by rw [HE1.out])) ?_
            refine jv (.bool true) (exec_nei _ _ _ _ (by rfl) .i64 e1 0 (by rfl) (by rfl) true (by rw [decide_eq_false H1.out]; rfl)) ?_
            refine jm (.bool true) ?_
            refine jm (.bool true) ?_
            refine js ?_
            refine js ?_
            refine js ?_
            refine js ?_
            refine jm (.bool true) ?_
            refine jz fun X2 hX2 => ?_
            have hB0 := hB0.bel hX2
            have hB1 := hB1.bel hX2
            have hb := bel_next hb hX2
            clear hX2
            go_upto_region 3 with (fail)
            refine jp ?_
            refine jc (.bool true) (fun X hX hF => sanC X (HKK.out X (bel_next hb hX))) ?_
            refine jm (.bool true) ?_
            refine jz fun X3 hX3 => ?_
            have hB0 := hB0.bel hX3
            have hB1 := hB1.bel hX3
            have hb := bel_next hb hX3
            clear hX3
            go_wp2
            go_ret
            exact ⟨rfl, hb⟩

end Go.Proofs.YthinopepcmidmaaDoor
